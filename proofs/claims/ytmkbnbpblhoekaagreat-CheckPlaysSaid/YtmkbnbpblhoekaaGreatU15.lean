/- Part of a proof for X's executor: what the program's functions answer. -/
import Derived.Test.YtmkbnbpblhoekaaGreatU14
import Derived.Test.YtmkbnbpblhoekaaGreatW3
set_option linter.unusedSimpArgs false
set_option linter.unusedVariables false
set_option linter.unusedSectionVars false
namespace Go.Proofs.YtmkbnbpblhoekaaGreat
open Go.Xr Go.Chk
set_option maxHeartbeats 8000000 in
theorem rgroups_ok {b : Nat} {h : Heap} {o : Nat} {es : List (Int × List Int)} {last : Int} {ov : Bool} {lv yv hv : V} {l ys hints : List Int} {p : Int} (hc : RChk b h o es last ov) (hl : es.length <= 1000000) (hf : ∀ e ∈ es,Fine e.2 /\ e.2.length <= 1000000) (hlv : Sl h lv ((p :: l).map (.int .i32))) (hp : -1048576 <= p /\ p <= 1048576) (hy : Sl h yv (ys.map (.int .i32)))
  (hh : Sw h hv (hints.map (.int .i64))) (hn : ys.length + hints.length <= 10000000) (hz : ∀ x ∈ hints,x ≠ 0 /\ -4611686018427387904 <= x /\ x <= 4611686018427387904) (hneg : ∀ x r,hints = x :: r -> x < 0) :
  EvCall xprog H0 48 [.ptr o 0 0,lv,yv,hv] h fun v h' => v = .int .i64 (groups es p ys hints 0 []) /\ Ext h h' := by
 refine s_call (fn := xf48) rfl (free _ rfl ..) ?_
 have el := hlv.len
 have er := hlv.row
 simp only [List.length_map,List.length_cons] at el
 have eh := hh.sl.len
 have rh := hh.sl.row
 simp only [List.length_map] at eh
 have wp : IntKind.i32.wrap (-p) = -p := wneg hp.1 hp.2
 have rp : rCs h (objS lv) (genS lv) (offS lv) 1 = some [.int .i32 p] := by
  have := hlv.at (i := 0) (x := .int .i32 p) rfl
  rwa [Nat.add_zero] at this
 simp -implicitDefEqProofs only [xf48,argsFrom_cons,argsFrom_nil]
 repeat' ((first | refine Z0 rfl ?_ | refine Z1 rfl ?_ | refine Z2 ?_ | refine Z3 ?_ | refine Z4 ?_ | refine Z5 ?_ | refine Z6 ?_ | refine Z7 ?_ | refine Z8 ?_ | refine Z9 (fun hif => ?_) (fun hif => ?_) | refine Za (fun hif => ?_) (fun hif => ?_) | refine Zb (fun hif => ?_) (fun hif => ?_) | (refine Zc ?_ ?_; omega) | (refine Zd ?_ ?_; omega) | (refine Ze ?_ ?_; omega)) <;>
  (try simp -implicitDefEqProofs (disch := first | assumption | omega) only [sx,sb,sd,se,xwS,xwO,xwI,oEv,xres,o1f,Nat.reduceAdd,Nat.reduceEqDiff,Nat.reduceSub, ↓reduceIte,reduceCtorEq,Int.toNat_zero,Nat.add_zero, *]))
 refine s_while (fun n t d g => ∃ (a : Nat) (mv : V) (ms met : List Int),a + n = hints.length /\ sO t 11 = .int .i64 a /\ sO t 10 = mv /\ sO t 0 = .ptr o 0 0 /\ sO t 1 = lv /\ sO t 2 = yv /\ sO t 3 = hv /\ sO t 9 = .int .i32 p /\ d = [] /\ Ext h g /\ Tk h.next g mv (ms.map (.int .i64)) /\ Eqs met ms /\ ms.length <= a /\ (∀ x r,hints.drop a = x :: r -> x < 0) /\ groups es p ys (hints.drop a) (ms.getD (ms.length - 1) 0) met = groups es p ys hints 0 []) (fun _ _ _ => frC ..) hints.length ⟨0,.nils,[],[],by omega,by simp [sSe],by simp [sSe],by simp [sSe],by simp [sSe],by simp [sSe],by simp [sSe],by simp [sSe],rfl,Ext.refl _,Tk.nil _ _,Eqs.refl _,Nat.le_refl _,by simpa using hneg,by simp⟩ ?_
 rintro n t d g ⟨a,mv,ms,met,a1,a2,a3,a4,a5,a6,a7,a8,rfl,xg,k1,k2,k3,k4,k5⟩
 have ml := k1.len
 have mr := k1.row
 simp only [List.length_map] at ml
 refine s_cut1 (fun t d g1 => sO t 11 = .int .i64 a /\ sO t 10 = mv /\ sO t 0 = .ptr o 0 0 /\ sO t 1 = lv /\ sO t 2 = yv /\ sO t 3 = hv /\ sO t 9 = .int .i32 p /\ d = [] /\ g1 = g /\ a < hints.length) ?_ ?_
 ·repeat' ((first | refine Z0 rfl ?_ | refine Z1 rfl ?_ | refine Z2 ?_ | refine Z3 ?_ | refine Z4 ?_ | refine Z5 ?_ | refine Z6 ?_ | refine Z7 ?_ | refine Z8 ?_ | refine Z9 (fun hif => ?_) (fun hif => ?_) | refine Za (fun hif => ?_) (fun hif => ?_) | refine Zb (fun hif => ?_) (fun hif => ?_) | (refine Zc ?_ ?_; omega) | (refine Zd ?_ ?_; omega) | (refine Ze ?_ ?_; omega)) <;>
   (try simp -implicitDefEqProofs (disch := first | assumption | omega) only [sx,sb,sd,se,xwS,xwO,xwI,oEv,xres,o1f,Nat.reduceAdd,Nat.reduceEqDiff,Nat.reduceSub, ↓reduceIte,reduceCtorEq, *]))
  ·omega
  rw [List.drop_eq_nil_of_le (by omega),groups] at k5
  have kmem : ∀ z,z ∈ met ↔ z ∈ ms := k2
  have hmsl : ms.length <= 10000000 := by omega
  obtain ⟨Lv,c2,c3,c1,c4⟩ := hc.clause
  replace c1 := c1 g xg
  have hany : (∃ e ∈ es, -p ∈ e.2 /\ e.1 ∉ ms) -> groups es p ys hints 0 [] = 61 := fun ⟨e,q1,q2,q3⟩ => by
   rw [<- k5,if_pos]
   rw [List.any_eq_true]
   exact ⟨e,q1,decide_eq_true ⟨q2,fun q => q3 ((kmem _).1 q)⟩⟩
  have hnone : (∀ e ∈ es, ¬ (-p ∈ e.2 /\ e.1 ∉ ms)) -> groups es p ys hints 0 [] = 0 := fun hn => by
   rw [<- k5]
   refine if_neg ?_
   rw [List.any_eq_true]
   rintro ⟨e,q1,q2⟩
   have q2 := of_decide_eq_true q2
   exact hn e q1 ⟨q2.1,fun q => q2.2 ((kmem _).2 q)⟩
  refine s_while (fun n t d g1 => ∃ i : Nat,i + n = es.length /\ sO t 16 = .int .i64 i /\ sO t 10 = mv /\ sO t 0 = .ptr o 0 0 /\ sO t 9 = .int .i32 p /\ d = [] /\ g1 = g /\ ∀ j (hj : j < es.length),j < i -> ¬ (-p ∈ (es[j]).2 /\ (es[j]).1 ∉ ms)) (fun _ _ _ => frC ..) es.length ⟨0,by omega,by simp [sSe],by simp [sSe,a3],by simp [sSe,a4],by simp [sSe,a8],rfl,rfl,fun j _ hj => by omega⟩ ?_
  clear a1 a2 a3 a4 a5 a6 a7 a8 t k4 k5 n
  rintro n t d g ⟨i,b1,b2,b3,b4,b5,rfl,rfl,b6⟩
  refine s_cut1 (fun t d g1 => sO t 16 = .int .i64 i /\ sO t 10 = mv /\ sO t 0 = .ptr o 0 0 /\ sO t 9 = .int .i32 p /\ d = [] /\ g1 = g /\ i < es.length) ?_ ?_
  ·repeat' ((first | refine Z0 rfl ?_ | refine Z1 rfl ?_ | refine Z2 ?_ | refine Z3 ?_ | refine Z4 ?_ | refine Z5 ?_ | refine Z6 ?_ | refine Z7 ?_ | refine Z8 ?_ | refine Z9 (fun hif => ?_) (fun hif => ?_) | refine Za (fun hif => ?_) (fun hif => ?_) | refine Zb (fun hif => ?_) (fun hif => ?_) | (refine Zc ?_ ?_; omega) | (refine Zd ?_ ?_; omega) | (refine Ze ?_ ?_; omega)) <;>
    (try simp -implicitDefEqProofs (disch := first | assumption | omega) only [sx,sb,sd,se,xwS,xwO,xwI,oEv,xres,o1f,Nat.reduceAdd,Nat.reduceEqDiff,Nat.reduceSub, ↓reduceIte,reduceCtorEq, *]))
   ·omega
   ·rw [hnone fun e he => ?_]
    obtain ⟨j,hj,rfl⟩ := List.getElem_of_mem he
    exact b6 j hj (by omega)
  clear b2 b3 b4 b5 t
  rintro t d g ⟨b2,b3,b4,b5,rfl,rfl,hi⟩
  obtain ⟨lv',c7,c5⟩ := c4 i hi
  obtain ⟨c5,c6⟩ := c5 g xg
  have hfl := hf _ (List.getElem_mem hi)
  have hmem := List.getElem_mem hi
  have hasL : ∀ x,EvCall xprog H0 63 [lv',.int .i32 x] g fun v h' => v = .bool (decide (x ∈ (es[i]).2)) /\ h' = g := fun x => Has_ok (c7.ext xg) (by have := hfl.2; omega) x
  repeat' ((first | refine Z0 rfl ?_ | refine Z1 rfl ?_ | refine Z2 ?_ | refine Z3 ?_ | refine Z4 ?_ | refine Z5 ?_ | refine Z6 ?_ | refine Z7 ?_ | refine Z8 ?_ | refine Z9 (fun hif => ?_) (fun hif => ?_) | refine Za (fun hif => ?_) (fun hif => ?_) | refine Zb (fun hif => ?_) (fun hif => ?_) | (refine Zc ?_ ?_; omega) | (refine Zd ?_ ?_; omega) | (refine Ze ?_ ?_; omega) | (refine (eCi (hasL _)).2 ?_)) <;>
   (try simp -implicitDefEqProofs (disch := first | assumption | omega) only [sx,sb,sd,se,xwS,xwO,xwI,oEv,xres,o1f,Nat.reduceAdd,Nat.reduceEqDiff,Nat.reduceSub, ↓reduceIte,reduceCtorEq,sf, *]))
  ·refine ⟨n - 1,by omega,i + 1,by omega,by simp,fun j hj hlt => ?_⟩
   rcases Nat.lt_succ_iff_lt_or_eq.1 hlt with h | rfl
   ·exact b6 j hj h
   ·exact fun q => absurd q.1 (by simpa using hif)
  have hpm : -p ∈ (es[i]).2 := by simpa using hif
  clear hasL c6 c7 hif
  refine s_while (fun m t d g1 => ∃ k : Nat,k + m = ms.length /\ sO t 18 = .int .i64 k /\ sO t 17 = .bool (decide ((es[i]).1 ∈ ms.take k)) /\ sO t 16 = .int .i64 i /\ sO t 10 = mv /\ sO t 0 = .ptr o 0 0 /\ sO t 9 = .int .i32 p /\ d = [] /\ g1 = g) (fun _ _ _ => frC ..) ms.length ⟨0,by omega,by simp [sSe],by simp [sSe],by simp [sSe,b2],by simp [sSe,b3],by simp [sSe,b4],by simp [sSe,b5],rfl,rfl⟩ ?_
  clear b2 b3 b4 b5 t
  rintro m t d g ⟨k,e1,e2,e3,b2,b3,b4,b5,rfl,rfl⟩
  have rk : ∀ (hk : k < ms.length),rCs g (objS mv) (genS mv) (offS mv + k) 1 = some [.int .i64 (ms[k])] := fun hk => k1.sl.at (by simp [hk])
  generalize hee : es[i] = e at *
  cases hin : decide (e.1 ∈ ms.take k)
  ·rw [hin] at e3
   have hin := of_decide_eq_false hin
   repeat' ((first | refine Z0 rfl ?_ | refine Z1 rfl ?_ | refine Z2 ?_ | refine Z3 ?_ | refine Z4 ?_ | refine Z5 ?_ | refine Z6 ?_ | refine Z7 ?_ | refine Z8 ?_ | refine Z9 (fun hif => ?_) (fun hif => ?_) | refine Za (fun hif => ?_) (fun hif => ?_) | refine Zb (fun hif => ?_) (fun hif => ?_) | (refine Zc ?_ ?_; omega) | (refine Zd ?_ ?_; omega) | (refine Ze ?_ ?_; omega)) <;>
    (try simp -implicitDefEqProofs (disch := first | assumption | omega) only [sx,sb,sd,se,xwS,xwO,xwI,oEv,xres,o1f,Nat.reduceAdd,Nat.reduceEqDiff,Nat.reduceSub, ↓reduceIte,reduceCtorEq,sf, *]))
   ·have hk : k < ms.length := by omega
    refine ⟨m - 1,by omega,k + 1,by omega,by simp,congrArg V.bool (decide_eq_decide.2 ?_)⟩
    rw [take_at hk,List.mem_append,List.mem_singleton]
    exact ⟨fun q => .inr q.symm,fun q => q.elim (fun q => absurd q hin) fun q => q.symm⟩
   ·have hk : k = ms.length := by omega
    subst hk
    rw [List.take_length] at hin
    rw [hany ⟨e,hmem,hpm,hin⟩]
  ·rw [hin] at e3
   have hin := of_decide_eq_true hin
   repeat' ((first | refine Z0 rfl ?_ | refine Z1 rfl ?_ | refine Z2 ?_ | refine Z3 ?_ | refine Z4 ?_ | refine Z5 ?_ | refine Z6 ?_ | refine Z7 ?_ | refine Z8 ?_ | refine Z9 (fun hif => ?_) (fun hif => ?_) | refine Za (fun hif => ?_) (fun hif => ?_) | refine Zb (fun hif => ?_) (fun hif => ?_) | (refine Zc ?_ ?_; omega) | (refine Zd ?_ ?_; omega) | (refine Ze ?_ ?_; omega)) <;>
    (try simp -implicitDefEqProofs (disch := first | assumption | omega) only [sx,sb,sd,se,xwS,xwO,xwI,oEv,xres,o1f,Nat.reduceAdd,Nat.reduceEqDiff,Nat.reduceSub, ↓reduceIte,reduceCtorEq,sf, *]))
   ·have hk : k < ms.length := by omega
    refine ⟨m - 1,by omega,k + 1,by omega,by simp,congrArg V.bool (decide_eq_true ?_).symm⟩
    rw [take_at hk]
    exact List.mem_append_left _ hin
   ·refine ⟨n - 1,by omega,i + 1,by omega,by simp,fun j hj hlt => ?_⟩
    rcases Nat.lt_succ_iff_lt_or_eq.1 hlt with h | rfl
    ·exact b6 j hj h
    ·intro q
     rw [hee] at q
     exact q.2 (List.mem_of_mem_take hin)
 clear a2 a3 a4 a5 a6 a7 a8 t
 rintro t d g ⟨a2,a3,a4,a5,a6,a7,a8,rfl,rfl,ha⟩
 have rx : rCs g (objS hv) (genS hv) (offS hv + a) 1 = some [.int .i64 (hints[a])] := (hh.sl.ext xg).at (by simp [ha])
 rw [drop_at ha] at k4 k5
 have hzd := hz _ (List.getElem_mem ha)
 have hd0 := k4 _ _ rfl
 have hle := headN_le (hints.drop (a + 1))
 rw [List.length_drop] at hle
 have hrest : ∀ {rv : V},Sw g rv ((hints.map (.int .i64)).drop (a + 1)) -> EvCall xprog H0 46 [rv] g fun v h' => v = .int .i64 (headN (hints.drop (a + 1)) : Nat) /\ h' = g := fun hs => rhead_ok (by rw [List.map_drop]; exact hs.sl) (by simp; omega)
 have hfind : ∀ id,EvCall xprog H0 44 [.ptr o 0 0,.int .i64 id] g fun v h' => (∃ r : Int,v = .int .i64 r /\ ((r < 0 /\ find es id = none) \/ ∃ (i : Nat) (l : List Int),r = i /\ es[i]? = some (id,l) /\ find es id = some l)) /\ h' = g := fun id => rFind_ok (hc.ext xg) hl id
 have wid : IntKind.i64.wrap (-(hints[a])) = -(hints[a]) := wrap_i64 (by omega) (by omega)
 generalize hints[a] = hd at *
 refine s_block ?_
 refine s_cut3 (fun t d g1 => sO t 11 = .int .i64 a /\ sO t 10 = mv /\ sO t 0 = .ptr o 0 0 /\ sO t 1 = lv /\ sO t 2 = yv /\ sO t 3 = hv /\ sO t 9 = .int .i32 p /\ sO t 12 = .int .i64 (-hd) /\ sO t 13 = .int .i64 (headN (hints.drop (a + 1)) : Nat) /\ (∃ r : Int,sO t 14 = .int .i64 r /\ ((r < 0 /\ find es (-hd) = none) \/ ∃ (i : Nat) (l : List Int),r = i /\ es[i]? = some (-hd,l) /\ find es (-hd) = some l)) /\ d = [] /\ g1 = g) ?_ ?_
 ·repeat' ((first | refine Z0 rfl ?_ | refine Z1 rfl ?_ | refine Z2 ?_ | refine Z3 ?_ | refine Z4 ?_ | refine Z5 ?_ | refine Z6 ?_ | refine Z7 ?_ | refine Z8 ?_ | refine Z9 (fun hif => ?_) (fun hif => ?_) | refine Za (fun hif => ?_) (fun hif => ?_) | refine Zb (fun hif => ?_) (fun hif => ?_) | (refine Zc ?_ ?_; omega) | (refine Zd ?_ ?_; omega) | (refine Ze ?_ ?_; omega) | ((refine x_sw_lo (hh.ext xg) (by omega) (by simp; omega) ?_; intro r1 q1; have q1 : Sw g r1 ((hints.map (.int .i64)).drop (a + 1)) := q1)) | (refine (eCi (hrest q1)).2 ?_) | ((refine eAc (hfind _) ?_; rintro _ g ⟨⟨r,rfl,hr⟩,rfl⟩))) <;>
   (try simp -implicitDefEqProofs (disch := first | assumption | omega) only [sx,sb,sd,se,xwS,xwO,xwI,oEv,xres,o1f,Nat.reduceAdd,Nat.reduceEqDiff,Nat.reduceSub, ↓reduceIte,reduceCtorEq,sf, *]))
  exact ⟨r,rfl,hr⟩
 clear a2 a3 a4 a5 a6 a7 a8 t rx hrest hfind wid
 rintro t d g ⟨a2,a3,a4,a5,a6,a7,a8,a9,a10,⟨r,a11,hr⟩,rfl,rfl⟩
 rcases hr with ⟨hr,hnone⟩ | ⟨q,l',rfl,hq,hsome⟩
 ·repeat' ((first | refine Z0 rfl ?_ | refine Z1 rfl ?_ | refine Z2 ?_ | refine Z3 ?_ | refine Z4 ?_ | refine Z5 ?_ | refine Z6 ?_ | refine Z7 ?_ | refine Z8 ?_ | refine Z9 (fun hif => ?_) (fun hif => ?_) | refine Za (fun hif => ?_) (fun hif => ?_) | refine Zb (fun hif => ?_) (fun hif => ?_) | (refine Zc ?_ ?_; omega) | (refine Zd ?_ ?_; omega) | (refine Ze ?_ ?_; omega)) <;>
   (try simp -implicitDefEqProofs (disch := first | assumption | omega) only [sx,sb,sd,se,xwS,xwO,xwI,oEv,xres,o1f,Nat.reduceAdd,Nat.reduceEqDiff,Nat.reduceSub, ↓reduceIte,reduceCtorEq,sf, *]))
  rw [<- k5,groups,hnone]
 obtain ⟨Lv,c2,c3,c1,c4⟩ := hc.clause
 have hp' := (List.getElem?_eq_some_iff.1 hq).1
 have hpe := (List.getElem?_eq_some_iff.1 hq).2
 obtain ⟨lv',c7,c5⟩ := c4 q hp'
 obtain ⟨_,c6⟩ := c5 g xg
 replace c1 := c1 g xg
 rw [hpe] at c7
 replace c7 : Sl h lv' (l'.map (.int .i32)) := c7
 have hfl := hf (-hd,l') (List.mem_of_getElem? hq)
 simp only at hfl
 have hasL : ∀ x,EvCall xprog H0 63 [lv',.int .i32 x] g fun v h' => v = .bool (decide (x ∈ l')) /\ h' = g := fun x => Has_ok (c7.ext xg) (by have := hfl.2; omega) x
 have rm : 0 < ms.length -> rCs g (objS mv) (genS mv) (offS mv + (ms.length - 1)) 1 = some [.int .i64 (ms.getD (ms.length - 1) 0)] := fun hm => k1.sl.at (by simp [show ms.length - 1 < ms.length by omega])
 have et : ((ms.length : Int) - 1).toNat = ms.length - 1 := by omega
 clear c5 c4 hpe
 rw [groups,hsome] at k5
 simp only at k5
 refine s_cut1 (fun t d g1 => sO t 11 = .int .i64 a /\ sO t 10 = mv /\ sO t 0 = .ptr o 0 0 /\ sO t 1 = lv /\ sO t 2 = yv /\ sO t 3 = hv /\ sO t 9 = .int .i32 p /\ sO t 12 = .int .i64 (-hd) /\ sO t 13 = .int .i64 (headN (hints.drop (a + 1)) : Nat) /\ sO t 14 = .int .i64 q /\ -p ∈ l' /\ ¬ (-hd <= ms.getD (ms.length - 1) 0) /\ d = [] /\ g1 = g) ?_ ?_
 ·repeat' ((first | refine Z0 rfl ?_ | refine Z1 rfl ?_ | refine Z2 ?_ | refine Z3 ?_ | refine Z4 ?_ | refine Z5 ?_ | refine Z6 ?_ | refine Z7 ?_ | refine Z8 ?_ | refine Z9 (fun hif => ?_) (fun hif => ?_) | refine Za (fun hif => ?_) (fun hif => ?_) | refine Zb (fun hif => ?_) (fun hif => ?_) | (refine Zc ?_ ?_; omega) | (refine Zd ?_ ?_; omega) | (refine Ze ?_ ?_; omega) | (refine (eCi (hasL _)).2 ?_)) <;>
   (try simp -implicitDefEqProofs (disch := first | assumption | omega) only [sx,sb,sd,se,xwS,xwO,xwI,oEv,xres,o1f,Nat.reduceAdd,Nat.reduceEqDiff,Nat.reduceSub, ↓reduceIte,reduceCtorEq,sf,et, *]))
  ·exfalso; omega
  ·exact congrArg (V.int .i64) ((if_pos (.inr (by assumption))).symm.trans k5)
  ·first | exact ⟨by simpa using ‹(!decide (-p ∈ l')) = false›,by assumption⟩ | simpa using ‹(!decide (-p ∈ l')) = false›
  ·refine ⟨by simpa using ‹(!decide (-p ∈ l')) = false›,?_⟩
   have : ms = [] := List.eq_nil_of_length_eq_zero (by omega)
   subst this
   simp
   omega
  ·exact congrArg (V.int .i64) ((if_pos (.inl (by simpa using hif))).symm.trans k5)
 clear a2 a3 a4 a5 a6 a7 a8 a9 a10 a11 t
 rintro t d g ⟨a2,a3,a4,a5,a6,a7,a8,a9,a10,a11,hpl,hlast,rfl,rfl⟩
 rw [if_neg (fun q => q.elim (fun q => q hpl) hlast)] at k5
 have hgrp : ∀ {rv : V},Sw g rv (((hints.map (.int .i64)).take (a + 1 + headN (hints.drop (a + 1)))).drop (a + 1)) -> EvCall xprog H0 64 [.ptr o 0 0,lv',.int .i32 p,yv,rv] g fun v h' => v = .int .i64 (groupOf es l' p ys ((hints.drop (a + 1)).take (headN (hints.drop (a + 1))))) /\ Ext g h' := fun hs => by
  rw [List.drop_take,Nat.add_sub_cancel_left, <- List.map_drop, <- List.map_take] at hs
  exact rgroup_ok (hc.ext xg) hl hf (c7.ext xg) hfl.1 hfl.2 hp (hy.ext xg) hs.sl (by simp; omega)
 have e2 : ((a : Int) + 1 + (headN (hints.drop (a + 1)) : Nat)).toNat = a + 1 + headN (hints.drop (a + 1)) := by omega
 have e1 : ((a : Int) + 1).toNat = a + 1 := by omega
 repeat' ((first | refine Z0 rfl ?_ | refine Z1 rfl ?_ | refine Z2 ?_ | refine Z3 ?_ | refine Z4 ?_ | refine Z5 ?_ | refine Z6 ?_ | refine Z7 ?_ | refine Z8 ?_ | refine Z9 (fun hif => ?_) (fun hif => ?_) | refine Za (fun hif => ?_) (fun hif => ?_) | refine Zb (fun hif => ?_) (fun hif => ?_) | (refine Zc ?_ ?_; omega) | (refine Zd ?_ ?_; omega) | (refine Ze ?_ ?_; omega) | ((refine x_sw_lohi (hh.ext xg) (by omega) (by omega) (by simp; omega) ?_; intro r1 q1; rw [e1,e2] at q1)) | ((refine eAc (hgrp q1) ?_; rintro _ g1 ⟨rfl,x2⟩)) | ((refine x_append_tk (k1.ext (x2.trans (Ext.new ..))) (Nat.le_succ_of_le (xg.trans x2).next) (sl_new (get_new ..) (by simp)) rfl (by simp; omega) ?_; rintro mv1 g2 u1 u2 u3))) <;>
  (try simp -implicitDefEqProofs (disch := first | assumption | omega) only [sx,sb,sd,se,xwS,xwO,xwI,oEv,xres,o1f,Nat.reduceAdd,Nat.reduceEqDiff,Nat.reduceSub, ↓reduceIte,reduceCtorEq,si,sh,sf,fillV,parts,over,Nat.beq_refl,Nat.ble, *]))
 ·exact ⟨congrArg (V.int .i64) ((if_neg (by simpa using hif)).symm.trans k5),xg.trans x2⟩
 ·rw [if_pos (by simpa using hif)] at k5
  have ed : hints.drop (a + 1 + headN (hints.drop (a + 1))) = (hints.drop (a + 1)).drop (headN (hints.drop (a + 1))) := by rw [List.drop_drop]
  refine ⟨hints.length - (a + 1 + headN (hints.drop (a + 1))),by omega,a + 1 + headN (hints.drop (a + 1)),mv1,ms ++ [-hd], -hd :: met,by omega,congrArg (V.int .i64) (by omega),rfl,((xg.trans x2).trans (Ext.new ..)).butI u2 (fun o ho q => by have := k1.lt q; omega),by simpa using u1,fun z => ?_,by simp; omega,fun x r hx => ?_,?_⟩
  ·rw [List.mem_cons,List.mem_append,List.mem_singleton,k2 z]
   exact Or.comm
  ·rw [ed] at hx
   have h1 := headN_drop hx
   have h2 : x ∈ hints.drop (a + 1) := List.mem_of_mem_drop (hx ▸ List.mem_cons_self)
   have h3 := hz x (List.mem_of_mem_drop h2)
   omega
  ·rw [ed, <- k5]
   congr 1
   simp
open Go.Xr Go.Chk
theorem rgroupsA_ok {b : Nat} {h : Heap} {o : Nat} {es : List (Int × List Int)} {last : Int} {ov : Bool} {lv yv hv : V} {l ys hints : List Int} (hc : RChk b h o es last ov) (hl : es.length <= 1000000) (hf : ∀ e ∈ es,Fine e.2 /\ e.2.length <= 1000000) (hlv : Sl h lv (l.map (.int .i32))) (hp : Fine l) (hy : Sl h yv (ys.map (.int .i32)))
  (hh : Sw h hv (hints.map (.int .i64))) (hn : ys.length + hints.length <= 10000000) (hz : HFine hints) (hneg : ∀ x r,hints = x :: r -> x < 0) :
  EvCall xprog H0 48 [.ptr o 0 0,lv,yv,hv] h fun v h' => v = .int .i64 (grpOf es l ys hints) /\ Ext h h' := by
 cases l with
 | cons p l => exact rgroups_ok hc hl hf hlv ⟨(hp p List.mem_cons_self).2.1,(hp p List.mem_cons_self).2.2⟩ hy hh hn hz hneg
 | nil =>
  refine s_call (fn := xf48) rfl (free _ rfl ..) ?_
  have el := hlv.len
  have er := hlv.row
  simp only [List.map_nil,List.length_nil] at el
  have x1 := Ext.refl h
  simp -implicitDefEqProofs only [xf48,argsFrom_cons,argsFrom_nil]
  repeat' ((first | refine Z0 rfl ?_ | refine Z1 rfl ?_ | refine Z2 ?_ | refine Z3 ?_ | refine Z4 ?_ | refine Z5 ?_ | refine Z6 ?_ | refine Z7 ?_ | refine Z8 ?_ | refine Z9 (fun hif => ?_) (fun hif => ?_) | refine Za (fun hif => ?_) (fun hif => ?_) | refine Zb (fun hif => ?_) (fun hif => ?_) | (refine Zc ?_ ?_; omega) | (refine Zd ?_ ?_; omega) | (refine Ze ?_ ?_; omega)) <;>
   (try simp -implicitDefEqProofs (disch := first | assumption | omega) only [sx,sb,sd,se,xwS,xwO,xwI,oEv,xres,o1f,Nat.reduceAdd,Nat.reduceEqDiff,Nat.reduceSub, ↓reduceIte,reduceCtorEq,Int.toNat_zero,Nat.add_zero, *]))
  rfl
set_option maxHeartbeats 8000000 in
theorem rFollows_ok {b : Nat} {h : Heap} {o : Nat} {es : List (Int × List Int)} {last : Int} {ov : Bool} {lv hv : V} {l hints : List Int} (hc : RChk b h o es last ov) (hl : es.length <= 1000000) (hf : ∀ e ∈ es,Fine e.2 /\ e.2.length <= 1000000) (hlv : Sl h lv (l.map (.int .i32))) (hp : Fine l)
  (hh : Sw h hv (hints.map (.int .i64))) (hn : l.length <= 1000000 /\ hints.length <= 1000000) (hz : HFine hints) :
  EvCall xprog H0 29 [.ptr o 0 0,lv,hv] h fun v h' => v = .int .i64 (follows es l hints) /\ Ext h h' := by
 refine s_call (fn := xf29) rfl (free _ rfl ..) ?_
 have el := hlv.len
 have er := hlv.row
 simp only [List.length_map] at el
 have eh := hh.sl.len
 have rh := hh.sl.row
 simp only [List.length_map] at eh
 have hle := headN_le hints
 simp -implicitDefEqProofs only [xf29,argsFrom_cons,argsFrom_nil]
 repeat' ((first | refine Z0 rfl ?_ | refine Z1 rfl ?_ | refine Z2 ?_ | refine Z3 ?_ | refine Z4 ?_ | refine Z5 ?_ | refine Z6 ?_ | refine Z7 ?_ | refine Z8 ?_ | refine Z9 (fun hif => ?_) (fun hif => ?_) | refine Za (fun hif => ?_) (fun hif => ?_) | refine Zb (fun hif => ?_) (fun hif => ?_) | (refine Zc ?_ ?_; omega) | (refine Zd ?_ ?_; omega) | (refine Ze ?_ ?_; omega) | ((refine eAc (rboth_ok hlv hp hn.1) ?_; rintro _ g0 ⟨rfl,x0⟩))) <;>
  (try simp -implicitDefEqProofs (disch := first | assumption | omega) only [sx,sb,sd,se,xwS,xwO,xwI,oEv,xres,o1f,Nat.reduceAdd,Nat.reduceEqDiff,Nat.reduceSub, ↓reduceIte,reduceCtorEq, *]))
 ·unfold follows
  rw [if_pos (by assumption)]
 have hb : both l = false := by assumption
 refine s_while (fun n t d g => ∃ (i : Nat) (yv : V),i + n = l.length /\ sO t 8 = .int .i64 i /\ sO t 7 = yv /\ sO t 0 = .ptr o 0 0 /\ sO t 1 = lv /\ sO t 2 = hv /\ d = [] /\ Ext h g /\ Tk h.next g yv (((l.take i).map fun x => -x).map (.int .i32))) (fun _ _ _ => frC ..) l.length ⟨0,.nils,by omega,by simp [sSe],by simp [sSe],by simp [sSe],by simp [sSe],by simp [sSe],rfl,x0,by simpa using Tk.nil _ _⟩ ?_
 rintro n t d g ⟨i,yv,a1,a2,a3,a4,a5,a6,rfl,xg,k1⟩
 have rl : ∀ (hi : i < l.length),rCs g (objS lv) (genS lv) (offS lv + i) 1 = some [.int .i32 (l[i])] := fun hi => (hlv.ext xg).at (by simp [hi])
 have wn : ∀ (hi : i < l.length),IntKind.i32.wrap (-(l[i])) = -(l[i]) := fun hi => wneg (hp _ (List.getElem_mem hi)).2.1 (hp _ (List.getElem_mem hi)).2.2
 have hhd : EvCall xprog H0 46 [hv] g fun v h' => v = .int .i64 (headN hints : Nat) /\ h' = g := rhead_ok (hh.ext xg).sl (by omega)
 have hth : ∀ {rv : V},Sw h rv ((hints.map (.int .i64)).take (headN hints)) -> i = l.length -> EvCall xprog H0 47 [.ptr o 0 0,yv,rv] g fun v h' => (∃ yv',v = .tup [yv',.bool (decide ((thr es (l.map fun x => -x) (hints.take (headN hints))).2 = 1)),.bool (decide ((thr es (l.map fun x => -x) (hints.take (headN hints))).2 = 2))] /\ Tk h.next h' yv' ((thr es (l.map fun x => -x) (hints.take (headN hints))).1.map (.int .i32)) /\ (thr es (l.map fun x => -x) (hints.take (headN hints))).1.length <= (l.map fun x => -x).length + (hints.take (headN hints)).length) /\ Ext h h' := fun k hk => by
  subst hk
  rw [List.take_length] at k1
  rw [<- List.map_take] at k
  exact rthrough_ok hc hl hf xg k1 k.sl (by simp; omega)
 have hgr : ∀ {g' : Heap} {nv rv : V} {now : List Int},Ext h g' -> Tk h.next g' nv (now.map (.int .i32)) -> Sw h rv ((hints.map (.int .i64)).drop (headN hints)) -> now.length <= (l.map fun x => -x).length + (hints.take (headN hints)).length -> EvCall xprog H0 48 [.ptr o 0 0,lv,nv,rv] g' fun v h' => v = .int .i64 (grpOf es l now (hints.drop (headN hints))) /\ Ext g' h' := fun x k1 k2 k3 => by
  rw [<- List.map_drop] at k2
  rw [List.length_map,List.length_take] at k3
  exact rgroupsA_ok (hc.ext x) hl hf (hlv.ext x) hp k1.sl (k2.ext x) (by simp; omega) (fun z hm => hz z (List.mem_of_mem_drop hm)) (HFine.drop hz)
 have hcode : follows es l hints = match (thr es (l.map fun x => -x) (hints.take (headN hints))).2 with | 0 => grpOf es l (thr es (l.map fun x => -x) (hints.take (headN hints))).1 (hints.drop (headN hints)) | 1 => 0 | _ => 60 := by
  unfold follows
  rw [hb]
  rfl
 have hle2 := thr_le es (hints.take (headN hints)) (l.map fun x => -x)
 repeat' ((first | refine Z0 rfl ?_ | refine Z1 rfl ?_ | refine Z2 ?_ | refine Z3 ?_ | refine Z4 ?_ | refine Z5 ?_ | refine Z6 ?_ | refine Z7 ?_ | refine Z8 ?_ | refine Z9 (fun hif => ?_) (fun hif => ?_) | refine Za (fun hif => ?_) (fun hif => ?_) | refine Zb (fun hif => ?_) (fun hif => ?_) | (refine Zc ?_ ?_; omega) | (refine Zd ?_ ?_; omega) | (refine Ze ?_ ?_; omega) | ((refine x_append_tk (k1.ext (Ext.new ..)) (Nat.le_succ_of_le xg.next) (sl_new (get_new ..) (by simp)) rfl (by simp; omega) ?_; rintro yv1 g1 u1 u2 u3)) | (refine (eCi hhd).2 ?_) | ((refine x_sw_hiX hh (by omega) (by simp; omega) ?_; intro r1 q1; rw [Int.toNat_natCast] at q1)) | ((refine eAc (hth q1 (by omega)) ?_; rintro _ g1 ⟨⟨nv,rfl,k3,k4⟩,x1⟩)) | ((refine x_sw_loX hh (by omega) (by simp; omega) ?_; intro r2 q2; rw [Int.toNat_natCast] at q2)) | ((refine eAc (hgr x1 k3 q2 k4) ?_; rintro _ g2 ⟨rfl,x2⟩))) <;>
  (try simp -implicitDefEqProofs (disch := first | assumption | omega) only [sx,sb,sd,se,xwS,xwO,xwI,oEv,xres,o1f,Nat.reduceAdd,Nat.reduceEqDiff,Nat.reduceSub, ↓reduceIte,reduceCtorEq,si,sh,sg,sf,Int.toNat_zero,fillV,parts,over,Nat.beq_refl,Nat.ble, *]))
 ·have hi : i < l.length := by omega
  refine ⟨n - 1,by omega,i + 1,yv1,by omega,by simp,rfl,(xg.trans (Ext.new ..)).butI u2 (fun o ho q => by have := k1.lt q; omega),?_⟩
  rw [take_at hi,List.map_append,List.map_append]
  exact u1
 all_goals
  have hc0 : (thr es (l.map fun x => -x) (hints.take (headN hints))).2 = 0 := by omega
  rw [hc0]
 ·have : l = [] := List.eq_nil_of_length_eq_zero (by omega)
  subst this
  rfl
 all_goals exact ⟨rfl,x1.trans x2⟩
open Go.Xr Go.Chk
theorem rrows_put {h H : Heap} {o : Nat} {Lv Lv' : V} {cs : List V} {es : List (Int × List Int)} {id : Int} {l : List Int} {w : V} (hr : RRows h o Lv cs es) (hcs : cs.length = es.length * 2) (hn : h.next <= H.next) (hg : ∀ x,x < h.next -> x ≠ o -> rOb Lv ≠ some x -> H.get x = h.get x)
  (hL : ∀ x,rOb Lv' = some x -> rOb Lv = some x \/ h.next <= x) (ho : o < h.next) (hw : Sl H w (l.map (.int .i32))) (hw2 : ∀ x,rOb w = some x -> x ≠ o /\ rOb Lv' ≠ some x /\ x < H.next) : RRows H o Lv' (cs ++ [.int .i64 id,w]) (es ++ [(id,l)]) := by
 intro i hi
 rw [List.length_append,List.length_singleton] at hi
 by_cases hlt : i < es.length
 ·obtain ⟨h1,lv,h2,h3,h4⟩ := hr i hlt
  rw [List.getElem_append_left hlt,List.getElem?_append_left (by omega),List.getElem?_append_left (by omega)]
  refine ⟨h1,lv,h2,h3.stay hn fun x hx hlt => ?_,fun x hx => ?_⟩
  ·obtain ⟨q1,q2,q3⟩ := h4 x hx
   exact hg x q3 q1 q2
  ·obtain ⟨q1,q2,q3⟩ := h4 x hx
   exact ⟨q1,fun q => (hL x q).elim q2 fun q => by omega,Nat.lt_of_lt_of_le q3 hn⟩
 ·have : i = es.length := by omega
  subst this
  rw [List.getElem_append_right (by omega),List.getElem?_append_right (by omega),List.getElem?_append_right (by omega)]
  rw [show es.length * 2 - cs.length = 0 by omega,show es.length * 2 + 1 - cs.length = 1 by omega]
  simp only [Nat.sub_self,List.getElem_cons_zero]
  exact ⟨rfl,w,rfl,hw,hw2⟩
set_option maxHeartbeats 8000000 in
theorem rput_ok {F : Nat -> Prop} {b : Nat} {h : Heap} {o : Nat} {es : List (Int × List Int)} {last : Int} {ov : Bool} {lv : V} {l : List Int} {id : Int} (hc : RChkF F b h o es last ov) (hl : es.length <= 1000000) (htot : total es <= 1000000000) (hlv : Sl h lv (l.map (.int .i32))) (hll : l.length <= 1000000) :
  EvCall xprog H0 23 [.ptr o 0 0,.int .i64 id,lv] h fun v h' => RChkF (fun x => F x \/ h.next <= x) b h' o (es ++ [(id,l)]) id (ov || l.isEmpty) /\ But (fun x => b <= x) h h' /\ But F h h' := by
 refine s_call (fn := xf23) rfl (free _ rfl ..) ?_
 obtain ⟨Lv,cs,⟨g1,hbo,holt,q1,q5,q2,q6⟩,qo,qL,qc⟩ := hc
 have qL : Kept (∀ x,rOb Lv = some x -> F x) := qL
 have qc : Kept (∀ v ∈ cs, ∀ x,rOb v = some x -> F x) := qc
 have el := hlv.len
 have er := hlv.row
 simp only [List.length_map] at el
 have eL := q1.len
 have rL := q1.row
 have r0 : ∀ {g : Heap},Ext h g -> rCs g o 0 0 1 = some [Lv] := fun x => rCl (off := 0) (by rw [x.get o holt]; exact g1) rfl
 simp -implicitDefEqProofs only [xf23,argsFrom_cons,argsFrom_nil]
 repeat' ((first | refine Z0 rfl ?_ | refine Z1 rfl ?_ | refine Z2 ?_ | refine Z3 ?_ | refine Z4 ?_ | refine Z5 ?_ | refine Z6 ?_ | refine Z7 ?_ | refine Z8 ?_ | refine Z9 (fun hif => ?_) (fun hif => ?_) | refine Za (fun hif => ?_) (fun hif => ?_) | refine Zb (fun hif => ?_) (fun hif => ?_) | (refine Zc ?_ ?_; omega) | (refine Zd ?_ ?_; omega) | (refine Ze ?_ ?_; omega) | ((refine x_append_tk (Tk.nil h.next h) (Nat.le_refl _) hlv (one_map _ _) (by simp; omega) ?_; rintro w g2 u1 u2 u3; have x2 : Ext h g2 := (Ext.refl h).butI u2 (fun o ho q => by cases q); have r02 := r0 x2; have wr := u1.row)) | ((refine x_append_grn (by decide) (q1.ext (x2.trans (Ext.new ..))) (by have := x2.next; simp; omega) (El.new (get_new ..) rfl) (by rw [List.all_cons,List.all_cons,one_row wr]; rfl) (by omega) ?_; rintro L1 g3 v1 v2 v3; have go3 : g3.get o = some (arr [Lv,.int .i64 last,.bool ov,.int .i64 (total es : Nat)] 1 false) := by { rw [v2.get o (by have := x2.next; simp; omega) q5,(x2.trans (Ext.new ..)).get o holt]; exact g1 }; have wL := v1.row)) | ((refine st_step go3 (by simp) (one_row wL) ?_; intro g4 go4 n4 f4)) | ((refine st_step go4 (by simp) rfl ?_; intro g5 go5 n5 f5; have s53 := rCl (off := 3) go5 rfl)) | ((refine st_step go5 (by simp) rfl ?_; intro g6 go6 n6 f6; have s62 := rCl (off := 2) go6 rfl)) | ((refine st_step go6 (by simp) rfl ?_; intro g7 go7 n7 f7))) <;>
  (try simp -implicitDefEqProofs (disch := first | assumption | omega) only [sx,sb,sd,se,xwS,xwO,xwI,oEv,xres,o1f,Nat.reduceAdd,Nat.reduceEqDiff,Nat.reduceSub, ↓reduceIte,reduceCtorEq,si,sh,sf,Int.toNat_zero,fillV,parts,over,Nat.beq_refl,Nat.ble, *]))
 all_goals
  have ht : total (es ++ [(id,l)]) = total es + l.length := by
   rw [total_append]
   simp [Chk.total]
  have hem : l.isEmpty = decide ((l.length : Int) = 0) := by
   cases l
   ·rfl
   ·exact (decide_eq_false (by simp; omega)).symm
  have hch : ∀ x,x ≠ o -> g7.get x = g3.get x := fun x hx => (f7 x hx).trans ((f6 x hx).trans ((f5 x hx).trans (f4 x hx)))
  have hnx : g7.next = g3.next := by omega
  have n2 := x2.next
  have n3 := v2.next
  rw [next_new] at n3 v3
  have hLv : ∀ x,rOb Lv = some x -> x < h.next := fun x hx => (q1.lt hx).2
  have hL1 : ∀ x,rOb L1 = some x -> rOb Lv = some x \/ x = g2.next + 1 := fun x hx => v3.elim (fun e => .inl (e ▸ hx)) fun e => .inr (by rw [hx] at e; exact Option.some.inj e)
  have hw1 : ∀ x,rOb w = some x -> h.next <= x /\ x < g2.next := fun x hx => u1.lt hx
  have q5' : rOb L1 ≠ some o := fun hx => (hL1 o hx).elim q5 fun e => by omega
  have hget : ∀ x,x < g2.next -> x ≠ o -> rOb Lv ≠ some x -> g7.get x = g2.get x := fun x h1 h2 h3 => (hch x h2).trans ((v2.get x (by simp; omega) h3).trans ((Ext.new ..).get x h1))
  unfold Kept at qL qc
  refine ⟨⟨L1,cs ++ [.int .i64 id,w],⟨?_,hbo,by omega,?_,q5',?_,?_⟩,.inl qo,fun x hx => (hL1 x hx).imp (qL x) fun e => by omega,fun v hv x hx => ?_⟩,⟨by omega,fun x h1 h2 => ?_⟩,⟨by omega,fun x h1 h2 => ?_⟩⟩
  ·rw [go7,ht,hem]
   simp [List.set]
  ·rw [List.length_append]
   exact v1.frame (by omega) fun x hx => hch x fun e => q5' (e ▸ hx)
  ·refine rrows_put q2 q1.size (by omega) (fun x h1 h2 h3 => (hget x (by omega) h2 h3).trans (x2.get x h1)) (fun x hx => (hL1 x hx).imp (fun q => q) fun e => by omega) holt ?_ fun x hx => ?_
   ·have := u1.frame (h' := g7) (by omega) fun x hx => hget x (hw1 x hx).2 (by have := hw1 x hx; omega) fun e => by have := hLv x e; have := hw1 x hx; omega
    simpa using this.sl
   ·have := hw1 x hx
    refine ⟨by omega,fun e => ?_,by omega⟩
    rcases hL1 x e with e | e
    ·have := hLv x e; omega
    ·omega
  ·rw [List.all_append,q6,List.all_cons,List.all_cons,one_row wr]
   rfl
  ·rcases List.mem_append.1 hv with hv | hv
   ·exact .inl (qc v hv x hx)
   ·simp only [List.mem_cons,List.not_mem_nil,or_false] at hv
    rcases hv with rfl | rfl
    ·cases hx
    ·exact .inr (hw1 x hx).1
  ·exact (hget x (by omega) (by omega) fun e => by have := (q1.lt e).1; omega).trans (x2.get x h1)
  ·exact (hget x (by omega) (fun e => h2 (e ▸ qo)) fun e => h2 (qL x e)).trans (x2.get x h1)
open Go.Xr Go.Chk
theorem RChk.low {b b' : Nat} {h : Heap} {o : Nat} {es : List (Int × List Int)} {last : Int} {ov : Bool} (hr : RChk b h o es last ov) (hb : b' <= b) : RChk b' h o es last ov :=
 let ⟨Lv,cs,h1,h2,h3,h4,h5⟩ := hr
 ⟨Lv,cs,h1,Nat.le_trans hb h2,h3,h4.imp (fun q => q) fun ⟨o,g,r,q1,q2⟩ => ⟨o,g,r,Nat.le_trans hb q1,q2⟩,h5⟩
theorem RChkF.low {F : Nat -> Prop} {b b' : Nat} {h : Heap} {o : Nat} {es : List (Int × List Int)} {last : Int} {ov : Bool} (hr : RChkF F b h o es last ov) (hb : b' <= b) : RChkF F b' h o es last ov :=
 let ⟨Lv,cs,⟨h1,h2,h3,h4,h5⟩,q⟩ := hr
 ⟨Lv,cs,⟨h1,Nat.le_trans hb h2,h3,h4.imp (fun q => q) fun ⟨o,g,r,q1,q2⟩ => ⟨o,g,r,Nat.le_trans hb q1,q2⟩,h5⟩,q⟩
theorem done_le' (cs : List (List Int)) (i : Nat) : (List.map List.length (List.take i cs)).sum <= done cs cs.length := done_le cs i
theorem begun_es : ∀ (cs : List (List Int)) (s : Chs) (n : Int),(Chk.start cs s n).es.length = s.es.length + cs.length /\ Chk.total (Chk.start cs s n).es = Chk.total s.es + (cs.map List.length).sum
 | [],s,n => by simp [Chk.start]
 | c :: r,s,n => by
  obtain ⟨h1,h2⟩ := begun_es r (s.put n c) (n + 1)
  rw [Chk.start,h1,h2]
  have ht : Chk.total (s.es ++ [(n,c)]) = Chk.total s.es + c.length := by
   rw [total_append]
   simp [Chk.total]
  simp only [Chs.put,List.length_append,List.length_cons,List.length_nil,List.map_cons,List.sum_cons,ht]
  omega
set_option maxHeartbeats 8000000 in
theorem rNew_ok {h : Heap} {vars : Int} {cv : V} {cs : List (List Int)} (hc : Cls h cv cs) (hx : ∀ c ∈ cs, ∀ x ∈ c,I32ok x) (hb : done cs cs.length <= 1000000) (hcl : cs.length <= 1000) :
  EvCall xprog H0 9 [.agg [.int .i64 vars,cv]] h fun v h' => ((rightOf vars cs ≠ 0 /\ v = .tup [.nilp,.int .i64 (rightOf vars cs)]) \/ (rightOf vars cs = 0 /\ ∃ o,v = .tup [.ptr o 0 0,.int .i64 0] /\ RChkF (fun x => h.next <= x) h.next h' o (Chk.start cs ⟨[],0,false⟩ 1).es (Chk.start cs ⟨[],0,false⟩ 1).last (Chk.start cs ⟨[],0,false⟩ 1).over)) /\ Ext h h' := by
 refine s_call (fn := xf9) rfl (free _ rfl ..) ?_
 generalize hH1 : nCs h [.int .i64 vars,cv] 1 false = H1
 have x1 : Ext h H1 := hH1 ▸ Ext.new ..
 have g1 : H1.get h.next = some (arr [.int .i64 vars,cv] 1 false) := by rw [<- hH1]; exact get_new ..
 have r0 : rCs H1 h.next 0 0 2 = some [.int .i64 vars,cv] := readCells_arr g1 (by simp)
 have hr := rRight_ok (vars := vars) (hc.ext x1) hx hb (by omega)
 have hlt : h.next < H1.next := by rw [<- hH1]; simp
 simp -implicitDefEqProofs only [xf9,argsFrom_cons,argsFrom_nil]
 repeat' ((first | refine Z0 rfl ?_ | refine Z1 rfl ?_ | refine Z2 ?_ | refine Z3 ?_ | refine Z4 ?_ | refine Z5 ?_ | refine Z6 ?_ | refine Z7 ?_ | refine Z8 ?_ | refine Z9 (fun hif => ?_) (fun hif => ?_) | refine Za (fun hif => ?_) (fun hif => ?_) | refine Zb (fun hif => ?_) (fun hif => ?_) | (refine Zc ?_ ?_; omega) | (refine Zd ?_ ?_; omega) | (refine Ze ?_ ?_; omega) | ((refine eAc hr ?_; rintro _ g2 ⟨rfl,x2⟩))) <;>
  (try simp -implicitDefEqProofs (disch := first | assumption | omega) only [sx,sb,sd,se,xwS,xwO,xwI,oEv,xres,o1f,Nat.reduceAdd,Nat.reduceEqDiff,Nat.reduceSub, ↓reduceIte,reduceCtorEq,si,sh,sf,Int.toNat_zero,fillV,parts,over,Nat.beq_refl,Nat.ble, *]))
 ·exact ⟨.inl (by simpa using hif),x1.trans x2⟩
 have hright : rightOf vars cs = 0 := by simpa using hif
 obtain ⟨vs,hs,hvl,hcs⟩ := hc
 have hl := hs.len
 have hr' := hs.row
 rw [hvl] at hl
 clear r0 hr hif
 have e0 : RChkF (fun x => H1.next <= x) H1.next (nCs g2 [.nils,.int .i64 0,.bool false,.int .i64 0] 1 false) g2.next [] 0 false := ⟨.nils,[],⟨get_new ..,x2.next,by simp,.inl ⟨rfl,rfl,rfl⟩,by simp [rOb],fun i hi => by simp at hi,rfl⟩,x2.next,(fun x hx => by cases hx),(fun v hv => by cases hv)⟩
 refine s_while (fun n t d g => ∃ (i : Nat),i + n = cs.length /\ sO t 6 = .int .i64 i /\ sO t 5 = .ptr g2.next 0 0 /\ sO t 1 = .ptr h.next 0 0 /\ d = [] /\ Ext H1 g /\ RChkF (fun x => H1.next <= x) H1.next g g2.next (Chk.start (cs.take i) ⟨[],0,false⟩ 1).es (Chk.start (cs.take i) ⟨[],0,false⟩ 1).last (Chk.start (cs.take i) ⟨[],0,false⟩ 1).over) (fun _ _ _ => frC ..) cs.length ⟨0,by omega,by simp [sSe],by simp [sSe],by simp [sSe],rfl,x2.trans (Ext.new ..),e0⟩ ?_
 rintro n t d g ⟨i,a1,a2,a3,a4,rfl,xg,k1⟩
 have r1 : rCs g h.next 0 1 1 = some [cv] := rCl (off := 1) (by rw [xg.get _ hlt]; exact g1) rfl
 have rc : i < cs.length -> rCs g (objS cv) (genS cv) (offS cv + i) 1 = some [vs.getD i .nils] := fun hi => (hs.ext (x1.trans xg)).at (by simp [show i < vs.length by omega])
 obtain ⟨se,st⟩ := begun_es (cs.take i) ⟨[],0,false⟩ 1
 have hd : (List.map List.length (List.take i cs)).sum <= 1000000 := Nat.le_trans (done_le' cs i) hb
 simp only [List.length_nil,List.length_take,Nat.zero_add] at se
 have hput : ∀ (hi : i < cs.length),EvCall xprog H0 23 [.ptr g2.next 0 0,.int .i64 ((i : Int) + 1),vs.getD i .nils] g fun v h' => RChkF (fun x => H1.next <= x) H1.next h' g2.next (Chk.start (cs.take (i + 1)) ⟨[],0,false⟩ 1).es (Chk.start (cs.take (i + 1)) ⟨[],0,false⟩ 1).last (Chk.start (cs.take (i + 1)) ⟨[],0,false⟩ 1).over /\ But (fun x => H1.next <= x) g h' := fun hi => by
  have et : cs.take (i + 1) = cs.take i ++ [cs[i]] := by
   rw [List.take_add_one,List.getElem?_eq_getElem hi]
   rfl
  have hll : (cs[i]).length <= 1000000 := by
   have h1 := done_succ hi
   have h2 := done_le cs (i + 1)
   omega
  rw [et,begun_snoc,List.length_take,Nat.min_eq_left (by omega),Int.add_comm 1]
  exact (rput_ok k1 (by omega) (by rw [st]; show Chk.total [] + _ <= _; have : Chk.total [] = 0 := rfl; omega) ((hcs i hi).ext (x1.trans xg)) hll).mono fun _ _ ⟨q1,q2,_⟩ => ⟨q1.mono fun x q => q.elim id fun q => Nat.le_trans xg.next q,q2⟩
 repeat' ((first | refine Z0 rfl ?_ | refine Z1 rfl ?_ | refine Z2 ?_ | refine Z3 ?_ | refine Z4 ?_ | refine Z5 ?_ | refine Z6 ?_ | refine Z7 ?_ | refine Z8 ?_ | refine Z9 (fun hif => ?_) (fun hif => ?_) | refine Za (fun hif => ?_) (fun hif => ?_) | refine Zb (fun hif => ?_) (fun hif => ?_) | (refine Zc ?_ ?_; omega) | (refine Zd ?_ ?_; omega) | (refine Ze ?_ ?_; omega) | ((refine eAc (hput (by omega)) ?_; rintro _ g3 ⟨k2,y2⟩))) <;>
  (try simp -implicitDefEqProofs (disch := first | assumption | omega) only [sx,sb,sd,se,xwS,xwO,xwI,oEv,xres,o1f,Nat.reduceAdd,Nat.reduceEqDiff,Nat.reduceSub, ↓reduceIte,reduceCtorEq,sf,Int.toNat_zero, *]))
 ·exact ⟨n - 1,by omega,i + 1,by omega,by simp,xg.butI y2 (fun o ho q => by omega),k2⟩
 ·have hi : i = cs.length := by omega
  subst hi
  rw [List.take_length] at k1
  exact ⟨.inr ⟨_,rfl,(k1.low x1.next).mono fun x q => Nat.le_trans x1.next q⟩,x1.trans xg⟩
open Go.Xr Go.Chk
theorem filt_next (es : List (Int × List Int)) {ids : List Int} {i : Nat} (hi : i < ids.length) : es.filter (fun e => decide (e.1 ∉ ids.take (i + 1))) = (es.filter fun e => decide (e.1 ∉ ids.take i)).filter fun e => decide (e.1 ≠ ids[i]) := by
 rw [List.filter_filter]
 congr 1
 funext e
 rw [take_at hi,Bool.eq_iff_iff,Bool.and_eq_true,decide_eq_true_eq,decide_eq_true_eq,decide_eq_true_eq,List.mem_append,List.mem_singleton]
 constructor
 ·exact fun h => ⟨fun q => h (.inr q),fun q => h (.inl q)⟩
 ·rintro ⟨h1,h2⟩ (q | q)
  ·exact h2 q
  ·exact h1 q
theorem rrows_cut {h H : Heap} {o : Nat} {Lv L1 : V} {cs : List V} {es : List (Int × List Int)} {p : Nat} (hr : RRows h o Lv cs es) (hcs : cs.length = es.length * 2) (hp : p < es.length) (hn : h.next <= H.next) (hg : ∀ x,x < h.next -> x ≠ o -> H.get x = h.get x)
  (hL : ∀ x,rOb L1 = some x -> h.next <= x) : RRows H o L1 (cs.take (p * 2) ++ cs.drop ((p + 1) * 2)) (es.take p ++ es.drop (p + 1)) := by
 have main : ∀ (j : Nat) (hj : j < es.length) (c1 c2 : Option V) (e : Int × List Int),c1 = cs[j * 2]? -> c2 = cs[j * 2 + 1]? -> e = es[j] -> c1 = some (.int .i64 e.1) /\ ∃ lv,c2 = some lv /\ Sl H lv (e.2.map (.int .i32)) /\ ∀ x,rOb lv = some x -> x ≠ o /\ rOb L1 ≠ some x /\ x < H.next := by
  rintro j hj c1 c2 e rfl rfl rfl
  obtain ⟨h1,lv,h2,h3,h4⟩ := hr j hj
  refine ⟨h1,lv,h2,h3.stay hn fun x hx hlt => hg x (h4 x hx).2.2 (h4 x hx).1,fun x hx => ?_⟩
  obtain ⟨q1,q2,q3⟩ := h4 x hx
  exact ⟨q1,fun q => by have := hL x q; omega,Nat.lt_of_lt_of_le q3 hn⟩
 intro i hi
 have hlen : (es.take p ++ es.drop (p + 1)).length = es.length - 1 := by simp; omega
 have hct : (cs.take (p * 2)).length = p * 2 := by simp; omega
 have het : (es.take p).length = p := by simp; omega
 rw [hlen] at hi
 by_cases hip : i < p
 ·refine main i (by omega) _ _ _ ?_ ?_ ?_
  ·rw [List.getElem?_append_left (by omega),List.getElem?_take,if_pos (by omega)]
  ·rw [List.getElem?_append_left (by omega),List.getElem?_take,if_pos (by omega)]
  ·rw [List.getElem_append_left (by omega),List.getElem_take]
 ·refine main (i + 1) (by omega) _ _ _ ?_ ?_ ?_
  ·rw [List.getElem?_append_right (by omega),List.getElem?_drop,hct]
   congr 1
   omega
  ·rw [List.getElem?_append_right (by omega),List.getElem?_drop,hct]
   congr 1
   omega
  ·rw [List.getElem_append_right (by omega),List.getElem_drop]
   congr 1
   omega
set_option maxHeartbeats 8000000 in
theorem rdrop_ok {F : Nat -> Prop} {b : Nat} {h : Heap} {o : Nat} {es : List (Int × List Int)} {last : Int} {ov : Bool} {hv : V} {ids : List Int} (hc : RChkF F b h o es last ov) (hl : es.length <= 1000000) (hr : Rise es last) (hf : ∀ e ∈ es,e.2.length <= 1000000) (htot : Chk.total es <= 1000000000) (hh : Sl h hv (ids.map (.int .i64))) (hhb : ∀ x,rOb hv = some x -> x < b) (hhl : ids.length <= 1000000) :
  EvCall xprog H0 28 [.ptr o 0 0,hv] h fun v h' => v = .int .i64 (if none5 es ids = true then 5 else 0) /\ RChkF (fun x => F x \/ h.next <= x) b h' o (if none5 es ids = true then es else es.filter fun e => decide (e.1 ∉ ids)) last ov /\ But (fun x => b <= x) h h' /\ But F h h' := by
 refine s_call (fn := xf28) rfl (free _ rfl ..) ?_
 have el := hh.len
 have er := hh.row
 simp only [List.length_map] at el
 have hids : ∀ {g},But (fun x => b <= x) h g -> Sl g hv (ids.map (.int .i64)) := fun x => hh.stay x.next fun o ho hlt => x.get o hlt (by have := hhb o ho; omega)
 have hids2 : ∀ {g},But (fun x => b <= x) h g -> ∀ (k : Nat) (hk : k < ids.length),rCs g (objS hv) (genS hv) (offS hv + k) 1 = some [.int .i64 (ids[k])] := fun x k hk => (hids x).at (by simp [hk])
 have hbad1 : ∀ (k : Nat) (hk : k < ids.length),find es ids[k] = none -> none5 es ids = true := fun k hk q => by
  unfold none5
  rw [Bool.or_eq_true,List.any_eq_true]
  exact .inl ⟨_,List.getElem_mem hk,by rw [q]; rfl⟩
 have hbad2 : ¬ ids.Nodup -> none5 es ids = true := fun q => by
  unfold none5
  rw [Bool.or_eq_true]
  exact .inr (by simp [q])
 have hgood : (∀ (k : Nat) (hk : k < ids.length),find es ids[k] ≠ none) -> ids.Nodup -> none5 es ids = false := fun q1 q2 => by
  unfold none5
  rw [Bool.or_eq_false_iff,List.any_eq_false]
  refine ⟨fun x hx => ?_,by simp [q2]⟩
  obtain ⟨k,hk,rfl⟩ := List.getElem_of_mem hx
  have := q1 k hk
  cases hfx : find es ids[k] with
  | none => exact absurd hfx this
  | some l => simp
 simp -implicitDefEqProofs only [xf28,argsFrom_cons,argsFrom_nil]
 repeat' ((first | refine Z0 rfl ?_ | refine Z1 rfl ?_ | refine Z2 ?_ | refine Z3 ?_ | refine Z4 ?_ | refine Z5 ?_ | refine Z6 ?_ | refine Z7 ?_ | refine Z8 ?_ | refine Z9 (fun hif => ?_) (fun hif => ?_) | refine Za (fun hif => ?_) (fun hif => ?_) | refine Zb (fun hif => ?_) (fun hif => ?_) | (refine Zc ?_ ?_; omega) | (refine Zd ?_ ?_; omega) | (refine Ze ?_ ?_; omega)) <;>
  (try simp -implicitDefEqProofs (disch := first | assumption | omega) only [sx,sb,sd,se,xwS,xwO,xwI,oEv,xres,o1f,Nat.reduceAdd,Nat.reduceEqDiff,Nat.reduceSub, ↓reduceIte,reduceCtorEq, *]))
 refine s_while (fun n t d g => ∃ (i : Nat),i + n = ids.length /\ sO t 5 = .int .i64 i /\ sO t 0 = .ptr o 0 0 /\ sO t 1 = hv /\ d = [] /\ g = h /\ (∀ (k : Nat) (hk : k < ids.length),k < i -> find es ids[k] ≠ none) /\ (ids.take i).Nodup) (fun _ _ _ => frC ..) ids.length ⟨0,by omega,by simp [sSe],by simp [sSe],by simp [sSe],rfl,rfl,fun k _ hk => by omega,by simp⟩ ?_
 rintro n t d g ⟨i,a1,a2,a3,a4,rfl,rfl,a5,a6⟩
 have rx := hids2 (But.refl _ g)
 refine s_cut1 (fun t d g1 => sO t 5 = .int .i64 i /\ sO t 0 = .ptr o 0 0 /\ sO t 1 = hv /\ d = [] /\ g1 = g /\ i < ids.length) ?_ ?_
 ·repeat' ((first | refine Z0 rfl ?_ | refine Z1 rfl ?_ | refine Z2 ?_ | refine Z3 ?_ | refine Z4 ?_ | refine Z5 ?_ | refine Z6 ?_ | refine Z7 ?_ | refine Z8 ?_ | refine Z9 (fun hif => ?_) (fun hif => ?_) | refine Za (fun hif => ?_) (fun hif => ?_) | refine Zb (fun hif => ?_) (fun hif => ?_) | (refine Zc ?_ ?_; omega) | (refine Zd ?_ ?_; omega) | (refine Ze ?_ ?_; omega)) <;>
   (try simp -implicitDefEqProofs (disch := first | assumption | omega) only [sx,sb,sd,se,xwS,xwO,xwI,oEv,xres,o1f,Nat.reduceAdd,Nat.reduceEqDiff,Nat.reduceSub, ↓reduceIte,reduceCtorEq, *]))
  ·omega
  have hi : i = ids.length := by omega
  subst hi
  rw [List.take_length] at a6
  have hg5 := hgood (fun k hk => a5 k hk hk) a6
  rw [hg5]
  simp only [Bool.false_eq_true,if_false]
  have hall := a5
  clear a1 a5 rx hbad1 hbad2 hgood
  refine s_while (fun n t d g1 => ∃ (i : Nat),i + n = ids.length /\ sO t 7 = .int .i64 i /\ sO t 0 = .ptr o 0 0 /\ sO t 1 = hv /\ d = [] /\ But (fun x => b <= x) g g1 /\ But F g g1 /\ RChkF (fun x => F x \/ g.next <= x) b g1 o (es.filter fun e => decide (e.1 ∉ ids.take i)) last ov) (fun _ _ _ => frC ..) ids.length ⟨0,by omega,by simp [sSe],by simp [sSe,a3],by simp [sSe,a4],rfl,But.refl _ _,But.refl _ _,by rw [show es.filter (fun e => decide (e.1 ∉ ids.take 0)) = es by rw [List.filter_eq_self]; intro x _; simp]; exact hc.mono fun _ q => .inl q⟩ ?_
  clear a2 a3 a4 t n
  rintro n t d g1 ⟨i,a1,a2,a3,a4,rfl,xg,xF,k1⟩
  have hfl : (es.filter fun e => decide (e.1 ∉ ids.take i)).length <= 1000000 := Nat.le_trans (List.length_filter_le _ _) hl
  refine s_cut1 (fun t d g2 => sO t 7 = .int .i64 i /\ sO t 0 = .ptr o 0 0 /\ sO t 1 = hv /\ d = [] /\ g2 = g1 /\ i < ids.length) ?_ ?_
  ·repeat' ((first | refine Z0 rfl ?_ | refine Z1 rfl ?_ | refine Z2 ?_ | refine Z3 ?_ | refine Z4 ?_ | refine Z5 ?_ | refine Z6 ?_ | refine Z7 ?_ | refine Z8 ?_ | refine Z9 (fun hif => ?_) (fun hif => ?_) | refine Za (fun hif => ?_) (fun hif => ?_) | refine Zb (fun hif => ?_) (fun hif => ?_) | (refine Zc ?_ ?_; omega) | (refine Zd ?_ ?_; omega) | (refine Ze ?_ ?_; omega)) <;>
    (try simp -implicitDefEqProofs (disch := first | assumption | omega) only [sx,sb,sd,se,xwS,xwO,xwI,oEv,xres,o1f,Nat.reduceAdd,Nat.reduceEqDiff,Nat.reduceSub, ↓reduceIte,reduceCtorEq, *]))
   ·omega
   ·have hi : i = ids.length := by omega
    subst hi
    rw [List.take_length] at k1
    exact k1
  clear a2 a3 a4 t
  rintro t d g1 ⟨a2,a3,a4,rfl,rfl,hi⟩
  have rx := hids2 xg i hi
  have hfind : ∀ id,EvCall xprog H0 44 [.ptr o 0 0,.int .i64 id] g1 fun v h' => (∃ r : Int,v = .int .i64 r /\ ((r < 0 /\ find (es.filter fun e => decide (e.1 ∉ ids.take i)) id = none) \/ ∃ (p : Nat) (l : List Int),r = p /\ (es.filter fun e => decide (e.1 ∉ ids.take i))[p]? = some (id,l) /\ find (es.filter fun e => decide (e.1 ∉ ids.take i)) id = some l)) /\ h' = g1 := fun id => rFind_ok k1.chk hfl id
  have hnn : find (es.filter fun e => decide (e.1 ∉ ids.take i)) ids[i] ≠ none := by
   have e := find_filter (es := es) (id := ids[i]) (fun id => decide (id ∉ ids.take i))
   rw [e,if_pos]
   ·exact hall i hi hi
   ·refine decide_eq_true fun hm => ?_
    obtain ⟨j,hj,e⟩ := List.getElem_of_mem hm
    rw [List.length_take] at hj
    rw [List.getElem_take] at e
    have := (List.getElem_inj a6).1 e
    omega
  have hnext := filt_next es hi
  have hr1 : Rise (es.filter fun e => decide (e.1 ∉ ids.take i)) last := hr.filter _
  have htot1 : Chk.total (es.filter fun e => decide (e.1 ∉ ids.take i)) <= 1000000000 := Nat.le_trans (total_filter_le _ _) htot
  have hf1 : ∀ e ∈ es.filter (fun e => decide (e.1 ∉ ids.take i)),e.2.length <= 1000000 := fun e he => hf e (List.mem_filter.1 he).1
  generalize es.filter (fun e => decide (e.1 ∉ ids.take i)) = es1 at *
  obtain ⟨id,hid⟩ : ∃ id,id = ids[i] := ⟨_,rfl⟩
  rw [<- hid] at rx hnn hnext
  clear hid hids hids2
  obtain ⟨Lv,cs,⟨go1,hbo,holt,q1,q5,q2,q6⟩,qo,qL,qc⟩ := k1
  have qc : Kept (∀ v ∈ cs, ∀ x,rOb v = some x -> F x \/ g.next <= x) := qc
  clear qL
  have s10 := rCl (off := 0) go1 rfl
  have s13 := rCl (off := 3) go1 rfl
  have eL := q1.len
  have rL := q1.row
  repeat' ((first | refine Z0 rfl ?_ | refine Z1 rfl ?_ | refine Z2 ?_ | refine Z3 ?_ | refine Z4 ?_ | refine Z5 ?_ | refine Z6 ?_ | refine Z7 ?_ | refine Z8 ?_ | refine Z9 (fun hif => ?_) (fun hif => ?_) | refine Za (fun hif => ?_) (fun hif => ?_) | refine Zb (fun hif => ?_) (fun hif => ?_) | (refine Zc ?_ ?_; omega) | (refine Zd ?_ ?_; omega) | (refine Ze ?_ ?_; omega) | ((refine eAc (hfind _) ?_; rintro _ g1 ⟨⟨r,rfl,⟨hr0,hnone⟩ | ⟨p,l,rfl,hat,hsome⟩⟩,rfl⟩; exact absurd hnone hnn; have hp := (List.getElem?_eq_some_iff.1 hat).1; obtain ⟨hc1,lw,hc2,hsl,hobj⟩ := q2 p hp; have hpe := (List.getElem?_eq_some_iff.1 hat).2; rw [hpe] at hsl; have rlw := q1.at hp hc2; have rowlw := hsl.row; have lenlw := hsl.len; simp only [List.length_map] at lenlw; have hll := hf1 _ (List.mem_of_getElem? hat))) | ((refine st_step go1 (by simp) rfl ?_; intro g3 go3 n3 f3; have s30 := rCl (off := 0) go3 rfl; have q13 : GrN 2 b g3 Lv cs es1.length := q1.frame (by omega) fun x hx => f3 x fun e => q5 (e ▸ hx))) | ((refine q13.hi (by omega) (by omega) ?_; intro w1 e1; rw [Int.toNat_natCast] at e1)) | ((refine x_append_grn (b := g3.next) (by decide) (.inl ⟨rfl,rfl,rfl⟩) (Nat.le_refl _) e1 (List.all_eq_true.2 fun x hx => List.all_eq_true.1 q6 x (List.mem_of_mem_take hx)) (by omega) ?_; rintro L2 g4 v1 v2 v3; have y4 : Ext g3 g4 := (Ext.refl g3).butI v2 (fun o ho q => by cases q); have go4 : g4.get o = _ := (y4.get o (by omega)).trans go3; have s40 := rCl (off := 0) go4 rfl)) | ((refine (q13.ext y4).lo (by omega) (by omega) ?_; intro w2 e2; rw [show ((p : Int) + 1).toNat = p + 1 by omega] at e2)) | ((refine x_append_grn (by decide) v1 y4.next e2 (List.all_eq_true.2 fun x hx => List.all_eq_true.1 q6 x (List.mem_of_mem_drop hx)) (by omega) ?_; rintro L3 g5 v4 v5 v6; have go5 : g5.get o = _ := (v5.get o (by have := y4.next; omega) fun q => by have := (v1.lt q).1; omega).trans go4; have rL3 := v4.row)) | ((refine st_step go5 (by simp) (one_row rL3) ?_; intro g6 go6 n6 f6))) <;>
   (try simp -implicitDefEqProofs (disch := first | assumption | omega) only [sx,sb,sd,se,xwS,xwO,xwI,oEv,xres,o1f,Nat.reduceAdd,Nat.reduceEqDiff,Nat.reduceSub, ↓reduceIte,reduceCtorEq,si,sf, *]))
  have hts := total_split hat
  have hL2 : ∀ x,rOb L2 = some x -> x = g3.next := fun x hx => v3.elim (fun e => by rw [hx] at e; cases e) fun e => by rw [hx] at e; exact Option.some.inj e
  have hL3 : ∀ x,rOb L3 = some x -> g3.next <= x := fun x hx => v6.elim (fun e => by have := hL2 x (e ▸ hx); omega) fun e => by rw [hx] at e; cases e; exact y4.next
  have hch : ∀ x,x < g1.next -> x ≠ o -> g6.get x = g1.get x := fun x h1 h2 => (f6 x h2).trans ((v5.get x (by have := y4.next; omega) fun q => by have := hL2 x q; omega).trans ((y4.get x (by omega)).trans (f3 x h2)))
  have hlen : (es1.take p ++ es1.drop (p + 1)).length = 0 + p + (es1.length - (p + 1)) := by simp; omega
  have hn6 : g1.next <= g6.next := by have := y4.next; have := v5.next; omega
  unfold Kept at qc
  refine ⟨n - 1,by omega,i + 1,by omega,by simp,⟨Nat.le_trans xg.next hn6,fun x h1 h2 => ?_⟩,⟨Nat.le_trans xg.next hn6,fun x h1 h2 => ?_⟩,?_⟩
  ·exact (hch x (Nat.lt_of_lt_of_le h1 xg.next) (by omega)).trans (xg.get x h1 h2)
  ·exact (hch x (Nat.lt_of_lt_of_le h1 xg.next) fun e => qo.elim (fun q => h2 (e ▸ q)) fun q => by omega).trans (xF.get x h1 h2)
  rw [hnext,filt_erase hr1.1 hat]
  refine ⟨L3,cs.take (p * 2) ++ cs.drop ((p + 1) * 2),⟨?_,hbo,by omega,?_,fun q => by have := hL3 o q; omega,rrows_cut q2 q1.size hp hn6 hch fun x hx => by have := hL3 x hx; omega,?_⟩,qo,fun x hx => .inr (by have := hL3 x hx; have := xg.next; omega),fun v hv x hx => (List.mem_append.1 hv).elim (fun hv => qc v (List.mem_of_mem_take hv) x hx) fun hv => qc v (List.mem_of_mem_drop hv) x hx⟩
  ·rw [go6,show (Chk.total (es1.take p ++ es1.drop (p + 1)) : Int) = Chk.total es1 - l.length by omega]
   have hll' : l.length <= 1000000 := hll
   rw [wrap_i64 (show -9223372036854775808 <= (Chk.total es1 : Int) - l.length by omega) (by omega)]
   simp [List.set]
  ·rw [hlen]
   have := v4.frame (h' := g6) (by omega) fun x hx => f6 x fun e => by have := hL3 x hx; omega
   refine this.imp (fun q => q) ?_
   rintro ⟨o1,g,r,q1,q2,q3⟩
   exact ⟨o1,g,r,by omega,q2,q3⟩
  ·rw [List.all_append,Bool.and_eq_true]
   exact ⟨List.all_eq_true.2 fun x hx => List.all_eq_true.1 q6 x (List.mem_of_mem_take hx),List.all_eq_true.2 fun x hx => List.all_eq_true.1 q6 x (List.mem_of_mem_drop hx)⟩
 clear a2 a3 a4 t
 rintro t d g ⟨a2,a3,a4,rfl,rfl,hi⟩
 have hfind : ∀ id,EvCall xprog H0 44 [.ptr o 0 0,.int .i64 id] g fun v h' => (∃ r : Int,v = .int .i64 r /\ ((r < 0 /\ find es id = none) \/ ∃ (i : Nat) (l : List Int),r = i /\ es[i]? = some (id,l) /\ find es id = some l)) /\ h' = g := fun id => rFind_ok hc.chk hl id
 replace rx := fun k hk => rx k hk
 have rxi := rx i hi
 repeat' ((first | refine Z0 rfl ?_ | refine Z1 rfl ?_ | refine Z2 ?_ | refine Z3 ?_ | refine Z4 ?_ | refine Z5 ?_ | refine Z6 ?_ | refine Z7 ?_ | refine Z8 ?_ | refine Z9 (fun hif => ?_) (fun hif => ?_) | refine Za (fun hif => ?_) (fun hif => ?_) | refine Zb (fun hif => ?_) (fun hif => ?_) | (refine Zc ?_ ?_; omega) | (refine Zd ?_ ?_; omega) | (refine Ze ?_ ?_; omega) | ((refine eAc (hfind _) ?_; rintro _ g ⟨⟨r,rfl,⟨hr0,hnone⟩ | ⟨p,l,rfl,hat,hsome⟩⟩,rfl⟩; rotate_left))) <;>
  (try simp -implicitDefEqProofs (disch := first | assumption | omega) only [sx,sb,sd,se,xwS,xwO,xwI,oEv,xres,o1f,Nat.reduceAdd,Nat.reduceEqDiff,Nat.reduceSub, ↓reduceIte,reduceCtorEq,sf, *]))
 ·refine s_while (fun m t d g1 => ∃ (k : Nat),k + m = i /\ sO t 6 = .int .i64 k /\ sO t 5 = .int .i64 i /\ sO t 0 = .ptr o 0 0 /\ sO t 1 = hv /\ d = [] /\ g1 = g /\ ∀ (j : Nat) (hj : j < ids.length),j < k -> ids[j] ≠ ids[i]) (fun _ _ _ => frC ..) i ⟨0,by omega,by simp [sSe],by simp [sSe,a2],by simp [sSe,a3],by simp [sSe,a4],rfl,rfl,fun k _ hk => by omega⟩ ?_
  clear a2 a3 a4 t
  rintro m t d g ⟨k,c1,c2,a2,a3,a4,rfl,rfl,c3⟩
  have rxk := rx k
  repeat' ((first | refine Z0 rfl ?_ | refine Z1 rfl ?_ | refine Z2 ?_ | refine Z3 ?_ | refine Z4 ?_ | refine Z5 ?_ | refine Z6 ?_ | refine Z7 ?_ | refine Z8 ?_ | refine Z9 (fun hif => ?_) (fun hif => ?_) | refine Za (fun hif => ?_) (fun hif => ?_) | refine Zb (fun hif => ?_) (fun hif => ?_) | (refine Zc ?_ ?_; omega) | (refine Zd ?_ ?_; omega) | (refine Ze ?_ ?_; omega)) <;>
   (try simp -implicitDefEqProofs (disch := first | assumption | omega) only [sx,sb,sd,se,xwS,xwO,xwI,oEv,xres,o1f,Nat.reduceAdd,Nat.reduceEqDiff,Nat.reduceSub, ↓reduceIte,reduceCtorEq,sf, *]))
  ·have hb := hbad2 fun q => by have := (List.getElem_inj q).1 hif; omega
   simp only [hb,if_true]
   exact ⟨trivial,hc.mono fun _ q => .inl q,But.refl _ _,But.refl _ _⟩
  ·refine ⟨m - 1,by omega,k + 1,by omega,by simp,fun j hj hlt => ?_⟩
   rcases Nat.lt_succ_iff_lt_or_eq.1 hlt with h | rfl
   ·exact c3 j hj h
   ·exact hif
  ·refine ⟨n - 1,by omega,i + 1,by omega,by simp,fun j hj hlt => ?_,?_⟩
   ·rcases Nat.lt_succ_iff_lt_or_eq.1 hlt with h | rfl
    ·exact a5 j hj h
    ·rw [hsome]
     simp
   ·rw [take_at hi,List.nodup_append]
    refine ⟨a6,by simp,fun x hx y hy => ?_⟩
    rw [List.mem_singleton] at hy
    subst hy
    rintro rfl
    obtain ⟨j,hj,e⟩ := List.getElem_of_mem hx
    rw [List.length_take] at hj
    rw [List.getElem_take] at e
    exact c3 j (by omega) (by omega) e
 ·exact ⟨hc.mono fun _ q => .inl q,But.refl _ _,But.refl _ _⟩
end Go.Proofs.YtmkbnbpblhoekaaGreat
