/- Part of a proof for X's executor: what the program's functions answer. -/
import Derived.Test.YtmkbnbpblhoekaaGreatU15
import Derived.Test.YtmkbnbpblhoekaaGreatU14
import Derived.Test.YtmkbnbpblhoekaaGreatU9
set_option linter.unusedSimpArgs false
set_option linter.unusedVariables false
set_option linter.unusedSectionVars false
namespace Go.Proofs.YtmkbnbpblhoekaaGreat
open Go.Xr Go.Chk
theorem RChk.reads {b : Nat} {h : Heap} {o : Nat} {es : List (Int × List Int)} {last : Int} {ov : Bool} (hc : RChk b h o es last ov) : rCs h o 0 1 1 = some [.int .i64 last] /\ rCs h o 0 2 1 = some [.bool ov] /\ rCs h o 0 3 1 = some [.int .i64 (Chk.total es : Nat)] :=
 let ⟨_,_,q1,_⟩ := hc
 ⟨rCl (off := 1) q1 rfl,rCl (off := 2) q1 rfl,rCl (off := 3) q1 rfl⟩
set_option maxHeartbeats 8000000 in
theorem rStep_ok {F : Nat -> Prop} {b : Nat} {h : Heap} {o : Nat} {s : Chs} {N : Nat} {kind id : Int} {lv hv : V} {lits hints : List Int} (hc : RChkF F b h o s.es s.last s.over) (hs : Right6 b s N) (hN : N <= 5000) (hl : Sl h lv (lits.map (.int .i32))) (hh : Sw h hv (hints.map (.int .i64))) (h1 : lits.length <= 3000) (h2 : hints.length <= 3000) (hhb : ∀ x,rOb hv = some x -> x < b) :
  EvCall xprog H0 12 [.ptr o 0 0,.agg [.int .u8 kind,.int .i64 id,lv,hv]] h fun v h' => v = .int .i64 (s.step (mayOf kind id lits hints) kind id lits hints).1 /\ RChkF (fun x => F x \/ h.next <= x) b h' o (s.step (mayOf kind id lits hints) kind id lits hints).2.es (s.step (mayOf kind id lits hints) kind id lits hints).2.last (s.step (mayOf kind id lits hints) kind id lits hints).2.over /\ But (fun x => b <= x) h h' /\ But F h h' := by
 refine s_call (fn := xf12) rfl (free _ rfl ..) ?_
 have hb : b <= h.next := by
  obtain ⟨Lv,cs,⟨q1,q2,q3,_⟩,_⟩ := hc
  omega
 generalize hH1 : nCs h [.int .u8 kind,.int .i64 id,lv,hv] 1 false = H1
 have x1 : Ext h H1 := hH1 ▸ Ext.new ..
 have g1 : H1.get h.next = some (arr [.int .u8 kind,.int .i64 id,lv,hv] 1 false) := by rw [<- hH1]; exact get_new ..
 have rA : rCs H1 h.next 0 0 4 = some [.int .u8 kind,.int .i64 id,lv,hv] := readCells_arr g1 (by simp)
 have hmay := rMay_ok (kind := kind) (id := id) (hl.ext x1) (hh.sl.ext x1) (by omega) (by omega)
 have hx : ∀ {g},Ext h g -> But (fun x => b <= x) h g := fun x => x.but _
 have hxF : ∀ {g},Ext h g -> But F h g := fun x => x.but _
 have hcx : ∀ {g},Ext h g -> RChkF (fun x => F x \/ h.next <= x) b g o s.es s.last s.over := fun x => (hc.ext x).mono fun _ q => .inl q
 cases hm : mayOf kind id lits hints with
 | false =>
  rw [hm] at hmay
  simp -implicitDefEqProofs only [xf12,argsFrom_cons,argsFrom_nil]
  repeat' ((first | refine Z0 rfl ?_ | refine Z1 rfl ?_ | refine Z2 ?_ | refine Z3 ?_ | refine Z4 ?_ | refine Z5 ?_ | refine Z6 ?_ | refine Z7 ?_ | refine Z8 ?_ | refine Z9 (fun hif => ?_) (fun hif => ?_) | refine Za (fun hif => ?_) (fun hif => ?_) | refine Zb (fun hif => ?_) (fun hif => ?_) | (refine Zc ?_ ?_; omega) | (refine Zd ?_ ?_; omega) | (refine Ze ?_ ?_; omega) | ((refine eAc hmay ?_; rintro _ g2 ⟨rfl,x2⟩))) <;>
   (try simp -implicitDefEqProofs (disch := first | assumption | omega) only [sx,sb,sd,se,xwS,xwO,xwI,oEv,xres,o1f,Nat.reduceAdd,Nat.reduceEqDiff,Nat.reduceSub, ↓reduceIte,reduceCtorEq,wrap_i64,Nat.zero_add,Nat.add_zero, *]))
  exact ⟨rfl,hcx (x1.trans x2),hx (x1.trans x2),hxF (x1.trans x2)⟩
 | true =>
  rw [hm] at hmay
  obtain ⟨hfl,hfh,hk⟩ := may_fine hm
  have rd : ∀ {g},Ext H1 g -> rCs g h.next 0 0 1 = some [.int .u8 kind] /\ rCs g h.next 0 1 1 = some [.int .i64 id] /\ rCs g h.next 0 2 1 = some [lv] /\ rCs g h.next 0 3 1 = some [hv] := fun x => by
   have g1' := (x.get h.next (by rw [<- hH1]; simp)).trans g1
   exact ⟨rCl (off := 0) g1' rfl,rCl (off := 1) g1' rfl,rCl (off := 2) g1' rfl,rCl (off := 3) g1' rfl⟩
  have el := hl.len
  have er := hl.row
  simp only [List.length_map] at el
  rcases hk with rfl | ⟨rfl,hid⟩
  ·have hdr : ∀ {g},Ext h g -> EvCall xprog H0 28 [.ptr o 0 0,hv] g fun v h' => v = .int .i64 (if none5 s.es hints = true then 5 else 0) /\ RChkF (fun x => F x \/ h.next <= x) b h' o (if none5 s.es hints = true then s.es else s.es.filter fun e => decide (e.1 ∉ hints)) s.last s.over /\ But (fun x => b <= x) g h' /\ But F g h' := fun x => (rdrop_ok (hc.ext x) (by have := hs.len; omega) hs.rise (fun e he => by have := (hs.fine e he).2; omega) (by have := hs.tot; omega) (hh.sl.ext x) hhb (by omega)).mono fun _ _ ⟨q1,q2,q3⟩ => ⟨q1,q2.mono fun _ q => q.imp (fun q => q) fun q => Nat.le_trans x.next q,q3⟩
   have hst : s.step true 2 id lits hints = if none5 s.es hints = true then (5,s) else (0, { s with es := s.es.filter fun e => decide (e.1 ∉ hints) }) := by
    unfold Chs.step
    rw [if_neg (by simp),if_pos rfl]
   rw [hst]
   clear hst
   cases hn : none5 s.es hints
   all_goals
    simp only [hn,if_true,if_false,Bool.false_eq_true] at hdr ⊢
    simp -implicitDefEqProofs only [xf12,argsFrom_cons,argsFrom_nil]
    repeat' ((first | refine Z0 rfl ?_ | refine Z1 rfl ?_ | refine Z2 ?_ | refine Z3 ?_ | refine Z4 ?_ | refine Z5 ?_ | refine Z6 ?_ | refine Z7 ?_ | refine Z8 ?_ | refine Z9 (fun hif => ?_) (fun hif => ?_) | refine Za (fun hif => ?_) (fun hif => ?_) | refine Zb (fun hif => ?_) (fun hif => ?_) | (refine Zc ?_ ?_; omega) | (refine Zd ?_ ?_; omega) | (refine Ze ?_ ?_; omega) | ((refine eAc hmay ?_; rintro _ g2 ⟨rfl,x2⟩; obtain ⟨d0,d1,d2,d3⟩ := rd x2)) | ((refine eAc (hdr (x1.trans x2)) ?_; rintro _ g3 ⟨rfl,k1,k2,k3⟩))) <;>
     (try simp -implicitDefEqProofs (disch := first | assumption | omega) only [sx,sb,sd,se,xwS,xwO,xwI,oEv,xres,o1f,Nat.reduceAdd,Nat.reduceEqDiff,Nat.reduceSub, ↓reduceIte,reduceCtorEq,wrap_i64,Nat.zero_add,Nat.add_zero, *]))
    first
     | exact ⟨k1,(hx (x1.trans x2)).trans k2,(hxF (x1.trans x2)).trans k3⟩
     | exact ⟨(hx (x1.trans x2)).trans k2,(hxF (x1.trans x2)).trans k3⟩
  ·have hfo : ∀ {g},Ext h g -> EvCall xprog H0 29 [.ptr o 0 0,lv,hv] g fun v h' => v = .int .i64 (follows s.es lits hints) /\ Ext g h' := fun x => rFollows_ok (hc.ext x).chk (by have := hs.len; omega) (fun e he => ⟨(hs.fine e he).1,by have := (hs.fine e he).2; omega⟩) (hl.ext x) hfl (hh.ext x) ⟨by omega,by omega⟩ hfh
   have hpu : ∀ {g},Ext h g -> EvCall xprog H0 23 [.ptr o 0 0,.int .i64 id,lv] g fun v h' => RChkF (fun x => F x \/ h.next <= x) b h' o (s.es ++ [(id,lits)]) id (s.over || lits.isEmpty) /\ But (fun x => b <= x) g h' /\ But F g h' := fun x => (rput_ok (hc.ext x) (by have := hs.len; omega) (by have := hs.tot; omega) (hl.ext x) (by omega)).mono fun _ _ ⟨q1,q2⟩ => ⟨q1.mono fun _ q => q.imp (fun q => q) fun q => Nat.le_trans x.next q,q2⟩
   have htt := hs.tot
   have hst : s.step true 1 id lits hints = if id <= s.last then (62,s) else if follows s.es lits hints ≠ 0 then (follows s.es lits hints,s) else if 16777216 < Chk.total s.es + lits.length then (3,s) else (0,s.put id lits) := by
    unfold Chs.step
    rw [if_neg (by simp),if_neg (by decide)]
   simp -implicitDefEqProofs only [xf12,argsFrom_cons,argsFrom_nil]
   repeat' ((first | refine Z0 rfl ?_ | refine Z1 rfl ?_ | refine Z2 ?_ | refine Z3 ?_ | refine Z4 ?_ | refine Z5 ?_ | refine Z6 ?_ | refine Z7 ?_ | refine Z8 ?_ | refine Z9 (fun hif => ?_) (fun hif => ?_) | refine Za (fun hif => ?_) (fun hif => ?_) | refine Zb (fun hif => ?_) (fun hif => ?_) | (refine Zc ?_ ?_; omega) | (refine Zd ?_ ?_; omega) | (refine Ze ?_ ?_; omega) | ((refine eAc hmay ?_; rintro _ g2 ⟨rfl,x2⟩; obtain ⟨d0,d1,d2,d3⟩ := rd x2; obtain ⟨c1,c2,c3⟩ := (hc.ext (x1.trans x2)).chk.reads)) | ((refine eAc (hfo (x1.trans x2)) ?_; rintro _ g3 ⟨rfl,x3⟩; obtain ⟨d0,d1,d2,d3⟩ := rd (x2.trans x3); obtain ⟨c1,c2,c3⟩ := (hc.ext (x1.trans (x2.trans x3))).chk.reads)) | ((refine eAc (hpu (x1.trans (x2.trans x3))) ?_; rintro _ g4 ⟨k1,k2,k3⟩))) <;>
    (try simp -implicitDefEqProofs (disch := first | assumption | omega) only [sx,sb,sd,se,xwS,xwO,xwI,oEv,xres,o1f,Nat.reduceAdd,Nat.reduceEqDiff,Nat.reduceSub, ↓reduceIte,reduceCtorEq,wrap_i64,Nat.zero_add,Nat.add_zero, *]))
   ·exact ⟨hcx (x1.trans x2),hx (x1.trans x2),hxF (x1.trans x2)⟩
   ·have hz : ¬ follows s.es lits hints = 0 := by simpa using hif
    rw [if_neg hz]
    exact ⟨rfl,hcx (x1.trans (x2.trans x3)),hx (x1.trans (x2.trans x3)),hxF (x1.trans (x2.trans x3))⟩
   ·exfalso; omega
   ·have hz : follows s.es lits hints = 0 := by simpa using ‹(!decide (follows s.es lits hints = 0)) = false›
    rw [if_pos hz,if_neg (by omega)]
    exact ⟨rfl,k1,(hx (x1.trans (x2.trans x3))).trans k2,(hxF (x1.trans (x2.trans x3))).trans k3⟩
open Go.Xr Go.Chk
theorem row_ok {h : Heap} {a b : V} {xs : List Int} (ha : Sl h a (xs.map (.int .i32))) (hb : Sl h b (xs.map (.int .i32))) (hl : xs.length <= 1000000) : EvCall xprog H0 10 [a,b] h fun v h' => v = .bool true /\ h' = h := by
 refine s_call (fn := xf10) rfl (free _ rfl ..) ?_
 have e1 := ha.len
 have e2 := hb.len
 have w1 := ha.row
 have w2 := hb.row
 simp only [List.length_map] at e1 e2
 simp -implicitDefEqProofs only [xf10,argsFrom_cons,argsFrom_nil]
 repeat' ((first | refine Z0 rfl ?_ | refine Z1 rfl ?_ | refine Z2 ?_ | refine Z3 ?_ | refine Z4 ?_ | refine Z5 ?_ | refine Z6 ?_ | refine Z7 ?_ | refine Z8 ?_ | refine Z9 (fun hif => ?_) (fun hif => ?_) | refine Za (fun hif => ?_) (fun hif => ?_) | refine Zb (fun hif => ?_) (fun hif => ?_) | (refine Zc ?_ ?_; omega) | (refine Zd ?_ ?_; omega) | (refine Ze ?_ ?_; omega)) <;>
  (try simp -implicitDefEqProofs (disch := first | assumption | omega) only [sx,sb,sd,se,xwS,xwO,xwI,oEv,xres,o1f,Nat.reduceAdd,Nat.reduceEqDiff,Nat.reduceSub, ↓reduceIte,reduceCtorEq,wrap_i64, *]))
 refine s_while (fun n t d h' => ∃ i : Nat,i + n = xs.length /\ sO t 5 = .int .i64 i /\ sO t 0 = a /\ sO t 1 = b /\ d = [] /\ h' = h) (fun _ _ _ => frC ..) xs.length ⟨0,by omega,by simp [sSe],by simp [sSe],by simp [sSe],rfl,rfl⟩ ?_
 rintro n t d h' ⟨i,a1,a2,a3,a4,rfl,rfl⟩
 have ra : ∀ (hi : i < xs.length),rCs h' (objS a) (genS a) (offS a + i) 1 = some [.int .i32 (xs[i])] := fun hi => ha.at (by simp [hi])
 have rb : ∀ (hi : i < xs.length),rCs h' (objS b) (genS b) (offS b + i) 1 = some [.int .i32 (xs[i])] := fun hi => hb.at (by simp [hi])
 repeat' ((first | refine Z0 rfl ?_ | refine Z1 rfl ?_ | refine Z2 ?_ | refine Z3 ?_ | refine Z4 ?_ | refine Z5 ?_ | refine Z6 ?_ | refine Z7 ?_ | refine Z8 ?_ | refine Z9 (fun hif => ?_) (fun hif => ?_) | refine Za (fun hif => ?_) (fun hif => ?_) | refine Zb (fun hif => ?_) (fun hif => ?_) | (refine Zc ?_ ?_; omega) | (refine Zd ?_ ?_; omega) | (refine Ze ?_ ?_; omega)) <;>
  (try simp -implicitDefEqProofs (disch := first | assumption | omega) only [sx,sb,sd,se,xwS,xwO,xwI,oEv,xres,o1f,Nat.reduceAdd,Nat.reduceEqDiff,Nat.reduceSub, ↓reduceIte,reduceCtorEq,wrap_i64,Nat.zero_add,Int.toNat_natCast, *]))
 exact ⟨n - 1,by omega,i + 1,by omega,by simp⟩
set_option maxHeartbeats 4000000 in
theorem SameStep_ok {h : Heap} {kind id : Int} {lv hv lv' hv' : V} {lits hints : List Int} (h1 : Sl h lv (lits.map (.int .i32))) (h2 : Sl h hv (hints.map (.int .i64))) (h3 : Sl h lv' (lits.map (.int .i32))) (h4 : Sl h hv' (hints.map (.int .i64))) (hl : lits.length <= 1000000) (hh : hints.length <= 1000000) :
  EvCall xprog H0 13 [.agg [.int .u8 kind,.int .i64 id,lv,hv],.agg [.int .u8 kind,.int .i64 id,lv',hv']] h fun v h' => v = .bool true /\ Ext h h' := by
 refine s_call (fn := xf13) rfl (free _ rfl ..) ?_
 generalize hH1 : nCs h [.int .u8 kind,.int .i64 id,lv,hv] 1 false = H1
 have x1 : Ext h H1 := hH1 ▸ Ext.new ..
 have n1 : H1.next = h.next + 1 := by rw [<- hH1]; rfl
 have g1 : H1.get h.next = some (arr [.int .u8 kind,.int .i64 id,lv,hv] 1 false) := by rw [<- hH1]; exact get_new ..
 generalize hH2 : nCs H1 [.int .u8 kind,.int .i64 id,lv',hv'] 1 false = H2
 have x2 : Ext H1 H2 := hH2 ▸ Ext.new ..
 have g2 : H2.get (h.next + 1) = some (arr [.int .u8 kind,.int .i64 id,lv',hv'] 1 false) := by rw [<- hH2, <- n1]; exact get_new ..
 have g12 := (x2.get h.next (by omega)).trans g1
 have q0 := rCl (off := 0) g12 rfl
 have q1 := rCl (off := 1) g12 rfl
 have q2 := rCl (off := 2) g12 rfl
 have q3 := rCl (off := 3) g12 rfl
 have r0 := rCl (off := 0) g2 rfl
 have r1 := rCl (off := 1) g2 rfl
 have r2 := rCl (off := 2) g2 rfl
 have r3 := rCl (off := 3) g2 rfl
 have s1 := h1.ext (x1.trans x2)
 have s2 := h2.ext (x1.trans x2)
 have s3 := h3.ext (x1.trans x2)
 have s4 := h4.ext (x1.trans x2)
 have e1 := s1.len
 have e2 := s2.len
 have e3 := s3.len
 have e4 := s4.len
 have w1 := s1.row
 have w2 := s2.row
 have w3 := s3.row
 have w4 := s4.row
 simp only [List.length_map] at e1 e2 e3 e4
 have x12 := x1.trans x2
 clear g1 g2 g12 h1 h2 h3 h4 x1 x2
 simp -implicitDefEqProofs only [xf13,argsFrom_cons,argsFrom_nil]
 repeat' ((first | refine Z0 rfl ?_ | refine Z1 rfl ?_ | refine Z2 ?_ | refine Z3 ?_ | refine Z4 ?_ | refine Z5 ?_ | refine Z6 ?_ | refine Z7 ?_ | refine Z8 ?_ | refine Z9 (fun hif => ?_) (fun hif => ?_) | refine Za (fun hif => ?_) (fun hif => ?_) | refine Zb (fun hif => ?_) (fun hif => ?_) | (refine Zc ?_ ?_; omega) | (refine Zd ?_ ?_; omega) | (refine Ze ?_ ?_; omega)) <;>
  (try simp -implicitDefEqProofs (disch := first | assumption | omega) only [sx,sb,sd,se,xwS,xwO,xwI,oEv,xres,o1f,Nat.reduceAdd,Nat.reduceEqDiff,Nat.reduceSub, ↓reduceIte,reduceCtorEq,wrap_i64,n1, *]))
 refine s_while (fun n t d h' => ∃ i : Nat,i + n = lits.length /\ sO t 5 = .int .i64 i /\ sO t 2 = .ptr h.next 0 0 /\ sO t 3 = .ptr (h.next + 1) 0 0 /\ d = [] /\ h' = H2) (fun _ _ _ => frC ..) lits.length ⟨0,by omega,by simp [sSe],by simp [sSe],by simp [sSe],rfl,rfl⟩ ?_
 rintro n t d h' ⟨i,a1,a2,a3,a4,rfl,rfl⟩
 have ra : ∀ (hi : i < lits.length),rCs h' (objS lv) (genS lv) (offS lv + i) 1 = some [.int .i32 (lits[i])] := fun hi => s1.at (by simp [hi])
 have rb : ∀ (hi : i < lits.length),rCs h' (objS lv') (genS lv') (offS lv' + i) 1 = some [.int .i32 (lits[i])] := fun hi => s3.at (by simp [hi])
 repeat' ((first | refine Z0 rfl ?_ | refine Z1 rfl ?_ | refine Z2 ?_ | refine Z3 ?_ | refine Z4 ?_ | refine Z5 ?_ | refine Z6 ?_ | refine Z7 ?_ | refine Z8 ?_ | refine Z9 (fun hif => ?_) (fun hif => ?_) | refine Za (fun hif => ?_) (fun hif => ?_) | refine Zb (fun hif => ?_) (fun hif => ?_) | (refine Zc ?_ ?_; omega) | (refine Zd ?_ ?_; omega) | (refine Ze ?_ ?_; omega)) <;>
  (try simp -implicitDefEqProofs (disch := first | assumption | omega) only [sx,sb,sd,se,xwS,xwO,xwI,oEv,xres,o1f,Nat.reduceAdd,Nat.reduceEqDiff,Nat.reduceSub, ↓reduceIte,reduceCtorEq,sf, *]))
 ·exact ⟨n - 1,by omega,i + 1,by omega,by simp⟩
 refine s_while (fun n t d h2 => ∃ i : Nat,i + n = hints.length /\ sO t 6 = .int .i64 i /\ sO t 2 = .ptr h.next 0 0 /\ sO t 3 = .ptr (h.next + 1) 0 0 /\ d = [] /\ h2 = h') (fun _ _ _ => frC ..) hints.length ⟨0,by omega,by simp [sSe],by simp [sSe,a3],by simp [sSe,a4],rfl,rfl⟩ ?_
 clear a1 a2 a3 a4 t ra rb
 rintro n t d h' ⟨i,a1,a2,a3,a4,rfl,rfl⟩
 have ra : ∀ (hi : i < hints.length),rCs h' (objS hv) (genS hv) (offS hv + i) 1 = some [.int .i64 (hints[i])] := fun hi => s2.at (by simp [hi])
 have rb : ∀ (hi : i < hints.length),rCs h' (objS hv') (genS hv') (offS hv' + i) 1 = some [.int .i64 (hints[i])] := fun hi => s4.at (by simp [hi])
 repeat' ((first | refine Z0 rfl ?_ | refine Z1 rfl ?_ | refine Z2 ?_ | refine Z3 ?_ | refine Z4 ?_ | refine Z5 ?_ | refine Z6 ?_ | refine Z7 ?_ | refine Z8 ?_ | refine Z9 (fun hif => ?_) (fun hif => ?_) | refine Za (fun hif => ?_) (fun hif => ?_) | refine Zb (fun hif => ?_) (fun hif => ?_) | (refine Zc ?_ ?_; omega) | (refine Zd ?_ ?_; omega) | (refine Ze ?_ ?_; omega)) <;>
  (try simp -implicitDefEqProofs (disch := first | assumption | omega) only [sx,sb,sd,se,xwS,xwO,xwI,oEv,xres,o1f,Nat.reduceAdd,Nat.reduceEqDiff,Nat.reduceSub, ↓reduceIte,reduceCtorEq,sf, *]))
 exact ⟨n - 1,by omega,i + 1,by omega,by simp⟩
open Go.Xr Go.Chk
def LvS (b : Nat) (h : Heap) (v : V) (cs : List V) : Prop := (v = .nils /\ cs = []) \/ ∃ p,v = .slice p 0 0 cs.length (.rest 0 1) /\ h.get p = some (arr cs 1 true) /\ b <= p /\ p < h.next
theorem LvS.len {b : Nat} {h : Heap} {v : V} {cs : List V} (hs : LvS b h v cs) : lenS v = cs.length := by
 rcases hs with ⟨rfl,rfl⟩ | ⟨p,rfl,_⟩ <;> rfl
theorem LvS.row {b : Nat} {h : Heap} {v : V} {cs : List V} (hs : LvS b h v cs) : rowS v = true := by
 rcases hs with ⟨rfl,rfl⟩ | ⟨p,rfl,_⟩ <;> rfl
theorem LvS.at {b : Nat} {h : Heap} {v : V} {cs : List V} (hs : LvS b h v cs) {i : Nat} {x : V} (hi : cs[i]? = some x) : rCs h (objS v) (genS v) (offS v + i) 1 = some [x] := by
 rcases hs with ⟨rfl,rfl⟩ | ⟨p,rfl,hg,_⟩
 ·cases hi
 ·rw [show offS (V.slice p 0 0 cs.length (.rest 0 1)) + i = i from Nat.zero_add i]
  exact rCl (off := i) hg hi
theorem LvS.lt {b : Nat} {h : Heap} {v : V} {cs : List V} (hs : LvS b h v cs) {x : Nat} (hx : rOb v = some x) : b <= x /\ x < h.next := by
 rcases hs with ⟨rfl,rfl⟩ | ⟨p,rfl,_,h1⟩
 ·cases hx
 ·cases hx; exact h1
theorem LvS.frame {b : Nat} {h h' : Heap} {v : V} {cs : List V} (hs : LvS b h v cs) (hn : h.next <= h'.next) (hg : ∀ x,rOb v = some x -> h'.get x = h.get x) : LvS b h' v cs := by
 rcases hs with ⟨rfl,rfl⟩ | ⟨p,rfl,h1,h2,h3⟩
 ·exact .inl ⟨rfl,rfl⟩
 ·exact .inr ⟨p,rfl,(hg p rfl).trans h1,h2,by omega⟩
theorem LvS.write {b : Nat} {h : Heap} {v : V} {cs : List V} (hs : LvS b h v cs) {i : Nat} {y : V} (hi : i < cs.length) (h1 : y.one = true) : ∃ h',writeCells h (objS v) (genS v) (offS v + i) [y] = some h' /\ LvS b h' v (cs.set i y) /\ h'.next = h.next /\ ∀ x,rOb v ≠ some x -> h'.get x = h.get x := by
 rcases hs with ⟨rfl,rfl⟩ | ⟨p,rfl,hg,h2,h3⟩
 ·simp at hi
 ·refine ⟨h.put p (arr (cs.set i y) 1 true),?_,.inr ⟨p,by rw [List.length_set],by rw [Heap.get_put,if_pos rfl],h2,h3⟩,rfl,fun x hx => ?_⟩
  ·show writeCells h p 0 (0 + i) [y] = _
   rw [Nat.zero_add]
   exact writeCell hg hi h1
  ·rw [Heap.get_put,if_neg]
   rintro rfl
   exact hx rfl
theorem keysOut_lvs (es : List (Int × V)) (h : Heap) : LvS h.next (keysOut es h).2 (keysOut es h).1 ((es.map Prod.fst).map (.int .i64)) := by
 cases es with
 | nil => exact .inl ⟨rfl,rfl⟩
 | cons a r =>
  refine .inr ⟨h.next,by simp [keysOut],?_,Nat.le_refl _,Nat.lt_succ_self _⟩
  rw [List.map_map]
  exact get_new ..
theorem Own.tk {b : Nat} {h : Heap} {v : V} {xs : List V} (hs : Own b h v xs) (hne : xs ≠ []) : Tk b h v xs := by
 rcases hs with ⟨q,_⟩ | ⟨o,g,r,h1,h2,h3,h4⟩
 ·exact absurd q hne
 ·exact .inr ⟨o,g,r,xs,h1,h2,h3,h4,List.take_length ..,Nat.le_refl _⟩
set_option maxHeartbeats 8000000 in
theorem same_ok {F : Nat -> Prop} {b bm : Nat} {h : Heap} {o om : Nat} {s : Chs} (hc : ChkP b h o s.es s.last s.over []) (hm : RChkF F bm h om s.es s.last s.over) (hr : Rise s.es s.last) (hw : ∀ e ∈ s.es,(Lit.int .i64 e.1).wf = true) (hl : s.es.length <= 1000000) (hll : ∀ e ∈ s.es,e.2.length <= 1000000) :
  EvCall xprog H0 15 [.ptr o 0 0,.ptr om 0 0] h fun v h' => v = .bool true /\ Ext h h' := by
 refine s_call (fn := xf15) rfl (free _ rfl ..) ?_
 have hli := LiveW_ok hc hr hw hl
 have hD : ∀ {g},Ext h g -> EvCall xprog H0 31 [.ptr o 0 0] g fun v h' => v = .bool s.over /\ h' = g := fun x => Done_ok (hc.ext x)
 have hme := fun {g} (x : Ext h g) => hm.chk.ext x
 obtain ⟨Lv,cs,gm,_,holt,q1,q5,q2,q6⟩ := hm.chk
 have rm : ∀ {g},Ext h g -> rCs g om 0 0 1 = some [Lv] /\ rCs g om 0 2 1 = some [.bool s.over] := fun x =>
  have q := (x.get om holt).trans gm
  ⟨rCl (off := 0) q rfl,rCl (off := 2) q rfl⟩
 have eL := q1.len
 have wL := q1.row
 have hq1 : ∀ {g},Ext h g -> GrN 2 bm g Lv cs s.es.length := fun x => q1.ext x
 have hq2 : ∀ {g},Ext h g -> RRows g om Lv cs s.es := fun x => q2.ext x
 clear hme gm q5 q6 q1 q2
 generalize hov : s.over = dn at *
 simp -implicitDefEqProofs only [xf15,argsFrom_cons,argsFrom_nil]
 refine s_cut2 (fun t d g => sO t 0 = .ptr o 0 0 /\ sO t 1 = .ptr om 0 0 /\ d = [] /\ Ext h g /\ ∃ lv,sO t 5 = lv /\ LvS h.next g lv ((s.es.map Prod.fst).map (.int .i64))) ?_ ?_
 ·repeat' ((first | refine Z0 rfl ?_ | refine Z1 rfl ?_ | refine Z2 ?_ | refine Z3 ?_ | refine Z4 ?_ | refine Z5 ?_ | refine Z6 ?_ | refine Z7 ?_ | refine Z8 ?_ | refine Z9 (fun hif => ?_) (fun hif => ?_) | refine Za (fun hif => ?_) (fun hif => ?_) | refine Zb (fun hif => ?_) (fun hif => ?_) | (refine Zc ?_ ?_; omega) | (refine Zd ?_ ?_; omega) | (refine Ze ?_ ?_; omega) | refine Zf rfl ?_ | (refine And.intro (a := stays _ _ _ = true) ?_ ?_; focus (simp -implicitDefEqProofs (disch := first | assumption | omega) only [sx,sb,sd,se,xwS,xwO,xwI,oEv,xres,o1f,Nat.reduceAdd,Nat.reduceEqDiff,Nat.reduceSub, ↓reduceIte,reduceCtorEq,stays,wantedV,V.same_refl,Bool.and_self,Bool.and_true,beq_self_eq_true,Bool.true_beq,Bool.false_beq, *]; done)) | ((refine eAc hli ?_; rintro _ g1 ⟨ces,H,ek,xH,rfl,rfl⟩; have lw := keysOut_lvs ces H; have lx := (keysOut_sl ces H).2.1))) <;>
   (try simp -implicitDefEqProofs (disch := first | assumption | omega) only [sx,sb,sd,se,xwS,xwO,xwI,oEv,xres,o1f,Nat.reduceAdd,Nat.reduceEqDiff,Nat.reduceSub, ↓reduceIte,reduceCtorEq, *]))
  rw [ek] at lw
  refine ⟨xH.trans lx,?_⟩
  rcases lw with q | ⟨p,e1,e2,e3,e4⟩
  ·exact .inl q
  ·exact .inr ⟨p,e1,e2,Nat.le_trans xH.next e3,e4⟩
 rintro t d g1 ⟨a0,a1,rfl,x1,lv,a5,lw⟩
 have elv := lw.len
 have wlv := lw.row
 simp only [List.length_map] at elv
 obtain ⟨rm0,rm2⟩ := rm x1
 have hD1 := hD x1
 refine s_cut1 (fun t d g => sO t 0 = .ptr o 0 0 /\ sO t 1 = .ptr om 0 0 /\ sO t 5 = lv /\ d = [] /\ g = g1) ?_ ?_
 ·cases dn
  all_goals
   repeat' ((first | refine Z0 rfl ?_ | refine Z1 rfl ?_ | refine Z2 ?_ | refine Z3 ?_ | refine Z4 ?_ | refine Z5 ?_ | refine Z6 ?_ | refine Z7 ?_ | refine Z8 ?_ | refine Z9 (fun hif => ?_) (fun hif => ?_) | refine Za (fun hif => ?_) (fun hif => ?_) | refine Zb (fun hif => ?_) (fun hif => ?_) | (refine Zc ?_ ?_; omega) | (refine Zd ?_ ?_; omega) | (refine Ze ?_ ?_; omega) | refine Zf rfl ?_ | (refine And.intro (a := stays _ _ _ = true) ?_ ?_; focus (simp -implicitDefEqProofs (disch := first | assumption | omega) only [sx,sb,sd,se,xwS,xwO,xwI,oEv,xres,o1f,Nat.reduceAdd,Nat.reduceEqDiff,Nat.reduceSub, ↓reduceIte,reduceCtorEq,stays,wantedV,V.same_refl,Bool.and_self,Bool.and_true,beq_self_eq_true,Bool.true_beq,Bool.false_beq,Nat.zero_add,Nat.add_zero,binV,nilCmp,nilOf,bne_self_eq_false, *]; done)) | ((refine (eCi hD1).2 ?_))) <;>
    (try simp -implicitDefEqProofs (disch := first | assumption | omega) only [sx,sb,sd,se,xwS,xwO,xwI,oEv,xres,o1f,Nat.reduceAdd,Nat.reduceEqDiff,Nat.reduceSub, ↓reduceIte,reduceCtorEq,Nat.zero_add,Nat.add_zero,binV,nilCmp,nilOf,bne_self_eq_false, *]))
 clear a0 a1 a5 t hD hD1 rm0 rm2 elv wlv
 rintro t d g1 ⟨a0,a1,a5,rfl,rfl⟩
 repeat' ((first | refine Z0 rfl ?_ | refine Z1 rfl ?_ | refine Z2 ?_ | refine Z3 ?_ | refine Z4 ?_ | refine Z5 ?_ | refine Z6 ?_ | refine Z7 ?_ | refine Z8 ?_ | refine Z9 (fun hif => ?_) (fun hif => ?_) | refine Za (fun hif => ?_) (fun hif => ?_) | refine Zb (fun hif => ?_) (fun hif => ?_) | (refine Zc ?_ ?_; omega) | (refine Zd ?_ ?_; omega) | (refine Ze ?_ ?_; omega) | refine Zf rfl ?_ | (refine And.intro (a := stays _ _ _ = true) ?_ ?_; focus (simp -implicitDefEqProofs (disch := first | assumption | omega) only [sx,sb,sd,se,xwS,xwO,xwI,oEv,xres,o1f,Nat.reduceAdd,Nat.reduceEqDiff,Nat.reduceSub, ↓reduceIte,reduceCtorEq,stays,wantedV,V.same_refl,Bool.and_self,Bool.and_true,beq_self_eq_true,Bool.true_beq,Bool.false_beq,wrap_i64, *]; done))) <;>
  (try simp -implicitDefEqProofs (disch := first | assumption | omega) only [sx,sb,sd,se,xwS,xwO,xwI,oEv,xres,o1f,Nat.reduceAdd,Nat.reduceEqDiff,Nat.reduceSub, ↓reduceIte,reduceCtorEq,wrap_i64, *]))
 refine s_while (fun n t d g => ∃ (i : Nat) (ks : List V),i + n = s.es.length /\ sO t 6 = .int .i64 i /\ sO t 0 = .ptr o 0 0 /\ sO t 1 = .ptr om 0 0 /\ sO t 5 = lv /\ d = [] /\ Ext h g /\ LvS h.next g lv ks /\ ks.length = s.es.length /\ Kept (∀ j (hj : j < s.es.length),i <= j -> ks[j]? = some (.int .i64 (s.es[j]).1))) (fun _ _ _ => frC ..) s.es.length ⟨0,_,by omega,by simp [sSe],by simp [sSe,a0],by simp [sSe,a1],by simp [sSe,a5],rfl,x1,lw,by simp,fun j hj _ => by simp [hj]⟩ ?_
 clear a0 a1 a5 t lw x1
 rintro n t d g ⟨i,ks,b1,a6,a0,a1,a5,rfl,xg,lw,hks,hkj⟩
 have elv := lw.len
 have wlv := lw.row
 refine s_cut1 (fun t d g1 => sO t 6 = .int .i64 i /\ sO t 0 = .ptr o 0 0 /\ sO t 1 = .ptr om 0 0 /\ sO t 5 = lv /\ d = [] /\ g1 = g /\ i < s.es.length) ?_ ?_
 ·repeat' ((first | refine Z0 rfl ?_ | refine Z1 rfl ?_ | refine Z2 ?_ | refine Z3 ?_ | refine Z4 ?_ | refine Z5 ?_ | refine Z6 ?_ | refine Z7 ?_ | refine Z8 ?_ | refine Z9 (fun hif => ?_) (fun hif => ?_) | refine Za (fun hif => ?_) (fun hif => ?_) | refine Zb (fun hif => ?_) (fun hif => ?_) | (refine Zc ?_ ?_; omega) | (refine Zd ?_ ?_; omega) | (refine Ze ?_ ?_; omega) | refine Zf rfl ?_ | (refine And.intro (a := stays _ _ _ = true) ?_ ?_; focus (simp -implicitDefEqProofs (disch := first | assumption | omega) only [sx,sb,sd,se,xwS,xwO,xwI,oEv,xres,o1f,Nat.reduceAdd,Nat.reduceEqDiff,Nat.reduceSub, ↓reduceIte,reduceCtorEq,stays,wantedV,V.same_refl,Bool.and_self,Bool.and_true,beq_self_eq_true,Bool.true_beq,Bool.false_beq,sf, *]; done))) <;>
   (try simp -implicitDefEqProofs (disch := first | assumption | omega) only [sx,sb,sd,se,xwS,xwO,xwI,oEv,xres,o1f,Nat.reduceAdd,Nat.reduceEqDiff,Nat.reduceSub, ↓reduceIte,reduceCtorEq,sf, *]))
  omega
 clear a0 a1 a5 a6 t
 rintro t d g ⟨a6,a0,a1,a5,rfl,rfl,hi⟩
 have hem := List.getElem_mem hi
 have hlen := hll _ hem
 have rk : rCs g (objS lv) (genS lv) (offS lv + i) 1 = some [.int .i64 (s.es[i]).1] := lw.at ((show ∀ j (hj : j < s.es.length),i <= j -> ks[j]? = some (.int .i64 (s.es[j]).1) from hkj) i hi (Nat.le_refl _))
 have hget := Get_ok (hc.ext xg) (id := (s.es[i]).1) (l := (s.es[i]).2) (find_at hi (fun j hj hlt e => by
  have := List.pairwise_iff_getElem.1 hr.1 j i (by simpa using hj) (by simpa using hi) hlt
  simp only [List.getElem_map] at this
  omega) rfl) hlen
 obtain ⟨z1,lm,z2,z3,_⟩ := hq2 (Ext.refl h) i hi
 have rid : ∀ {g2},Ext h g2 -> rCs g2 (objS Lv) (genS Lv) (offS Lv + i * 2) 1 = some [.int .i64 (s.es[i]).1] /\ rCs g2 (objS Lv) (genS Lv) (offS Lv + i * 2 + 1) 1 = some [lm] /\ rCs g2 om 0 0 1 = some [Lv] := fun x => ⟨(hq1 x).at (j := 0) hi z1,(hq1 x).at (j := 1) hi z2,(rm x).1⟩
 have hrow : ∀ {g2 w},Ext h g2 -> Sl g2 w ((s.es[i]).2.map (.int .i32)) -> EvCall xprog H0 10 [w,lm] g2 fun v h' => v = .bool true /\ h' = g2 := fun x q => row_ok q (z3.ext x) hlen
 generalize hid : (s.es[i]).1 = id at hget rid rk
 generalize (s.es[i]).2 = ls at *
 refine s_seq ?_
 refine s_block ?_
 refine s_cut1 (fun t d g1 => sO t 6 = .int .i64 i /\ sO t 0 = .ptr o 0 0 /\ sO t 1 = .ptr om 0 0 /\ sO t 5 = lv /\ sO t 8 = .bool true /\ d = [] /\ Ext g g1 /\ ∃ w,sO t 7 = w /\ Own g.next g1 w (ls.map (.int .i32))) ?_ ?_
 ·repeat' ((first | refine Z0 rfl ?_ | refine Z1 rfl ?_ | refine Z2 ?_ | refine Z3 ?_ | refine Z4 ?_ | refine Z5 ?_ | refine Z6 ?_ | refine Z7 ?_ | refine Z8 ?_ | refine Z9 (fun hif => ?_) (fun hif => ?_) | refine Za (fun hif => ?_) (fun hif => ?_) | refine Zb (fun hif => ?_) (fun hif => ?_) | (refine Zc ?_ ?_; omega) | (refine Zd ?_ ?_; omega) | (refine Ze ?_ ?_; omega) | refine Zf rfl ?_ | (refine And.intro (a := stays _ _ _ = true) ?_ ?_; focus (simp -implicitDefEqProofs (disch := first | assumption | omega) only [sx,sb,sd,se,xwS,xwO,xwI,oEv,xres,o1f,Nat.reduceAdd,Nat.reduceEqDiff,Nat.reduceSub, ↓reduceIte,reduceCtorEq,stays,wantedV,V.same_refl,Bool.and_self,Bool.and_true,beq_self_eq_true,Bool.true_beq,Bool.false_beq,sg,sf, *]; done)) | ((refine eAc hget ?_; rintro _ g2 ⟨⟨w,rfl,w1⟩,x2⟩))) <;>
   (try simp -implicitDefEqProofs (disch := first | assumption | omega) only [sx,sb,sd,se,xwS,xwO,xwI,oEv,xres,o1f,Nat.reduceAdd,Nat.reduceEqDiff,Nat.reduceSub, ↓reduceIte,reduceCtorEq,sg,sf, *]))
 clear a0 a1 a5 a6 t hget rk
 rintro t d g1 ⟨a6,a0,a1,a5,a8,rfl,x2,w,a7,w1⟩
 have xg1 := xg.trans x2
 obtain ⟨ri0,ri1,rm1⟩ := rid xg1
 have lw1 := lw.frame x2.next fun x hx => x2.get x (lw.lt hx).2
 have hkk := (show ∀ j (hj : j < s.es.length),i <= j -> ks[j]? = some (.int .i64 (s.es[j]).1) from hkj)
 have rk1 : rCs g1 (objS lv) (genS lv) (offS lv + i) 1 = some [.int .i64 id] := lw1.at (hid ▸ hkk i hi (Nat.le_refl _))
 clear hkk
 have hrw := hrow xg1 w1.sl
 have ew := w1.len
 have ww := w1.row
 rw [List.length_map] at ew
 refine s_cut1 (fun t d g2 => sO t 6 = .int .i64 i /\ sO t 0 = .ptr o 0 0 /\ sO t 1 = .ptr om 0 0 /\ sO t 5 = lv /\ sO t 7 = w /\ d = [] /\ g2 = g1) ?_ ?_
 ·repeat' ((first | refine Z0 rfl ?_ | refine Z1 rfl ?_ | refine Z2 ?_ | refine Z3 ?_ | refine Z4 ?_ | refine Z5 ?_ | refine Z6 ?_ | refine Z7 ?_ | refine Z8 ?_ | refine Z9 (fun hif => ?_) (fun hif => ?_) | refine Za (fun hif => ?_) (fun hif => ?_) | refine Zb (fun hif => ?_) (fun hif => ?_) | (refine Zc ?_ ?_; omega) | (refine Zd ?_ ?_; omega) | (refine Ze ?_ ?_; omega) | refine Zf rfl ?_ | (refine And.intro (a := stays _ _ _ = true) ?_ ?_; focus (simp -implicitDefEqProofs (disch := first | assumption | omega) only [sx,sb,sd,se,xwS,xwO,xwI,oEv,xres,o1f,Nat.reduceAdd,Nat.reduceEqDiff,Nat.reduceSub, ↓reduceIte,reduceCtorEq,stays,wantedV,V.same_refl,Bool.and_self,Bool.and_true,beq_self_eq_true,Bool.true_beq,Bool.false_beq,sf,binV,nilCmp,nilOf, *]; done)) | ((refine (eCi hrw).2 ?_))) <;>
   (try simp -implicitDefEqProofs (disch := first | assumption | omega) only [sx,sb,sd,se,xwS,xwO,xwI,oEv,xres,o1f,Nat.reduceAdd,Nat.reduceEqDiff,Nat.reduceSub, ↓reduceIte,reduceCtorEq,sf,binV,nilCmp,nilOf, *]))
 clear a0 a1 a5 a6 a7 a8 t hrow hrw rid ri0 ri1 rm1 rk1
 rintro t d g1 ⟨a6,a0,a1,a5,a7,rfl,rfl⟩
 refine s_cut1 (fun t d g3 => sO t 6 = .int .i64 i /\ sO t 0 = .ptr o 0 0 /\ sO t 1 = .ptr om 0 0 /\ sO t 5 = lv /\ d = [] /\ g3.next = g1.next /\ Kept (∀ x,x < g1.next -> (ls ≠ [] -> rOb w ≠ some x) -> g3.get x = g1.get x)) ?_ ?_
 ·repeat' ((first | refine Z0 rfl ?_ | refine Z1 rfl ?_ | refine Z2 ?_ | refine Z3 ?_ | refine Z4 ?_ | refine Z5 ?_ | refine Z6 ?_ | refine Z7 ?_ | refine Z8 ?_ | refine Z9 (fun hif => ?_) (fun hif => ?_) | refine Za (fun hif => ?_) (fun hif => ?_) | refine Zb (fun hif => ?_) (fun hif => ?_) | (refine Zc ?_ ?_; omega) | (refine Zd ?_ ?_; omega) | (refine Ze ?_ ?_; omega) | refine Zf rfl ?_ | (refine And.intro (a := stays _ _ _ = true) ?_ ?_; focus (simp -implicitDefEqProofs (disch := first | assumption | omega) only [sx,sb,sd,se,xwS,xwO,xwI,oEv,xres,o1f,Nat.reduceAdd,Nat.reduceEqDiff,Nat.reduceSub, ↓reduceIte,reduceCtorEq,stays,wantedV,V.same_refl,Bool.and_self,Bool.and_true,beq_self_eq_true,Bool.true_beq,Bool.false_beq,wrap_i64, *]; done))) <;>
   (try simp -implicitDefEqProofs (disch := first | assumption | omega) only [sx,sb,sd,se,xwS,xwO,xwI,oEv,xres,o1f,Nat.reduceAdd,Nat.reduceEqDiff,Nat.reduceSub, ↓reduceIte,reduceCtorEq,wrap_i64, *]))
  refine s_while (fun n t d g3 => ∃ (k : Nat) (ys : List V),k + n = ls.length /\ sO t 9 = .int .i64 k /\ sO t 6 = .int .i64 i /\ sO t 0 = .ptr o 0 0 /\ sO t 1 = .ptr om 0 0 /\ sO t 5 = lv /\ sO t 7 = w /\ d = [] /\ ys.length = ls.length /\ (ls ≠ [] -> Tk g.next g3 w ys) /\ g3.next = g1.next /\ Kept (∀ x,x < g1.next -> (ls ≠ [] -> rOb w ≠ some x) -> g3.get x = g1.get x)) (fun _ _ _ => frC ..) ls.length ⟨0,_,by omega,by simp [sSe],by simp [sSe,a6],by simp [sSe,a0],by simp [sSe,a1],by simp [sSe,a5],by simp [sSe,a7],rfl,by rw [List.length_map],fun q => w1.tk (by simpa using q),rfl,fun _ _ _ => rfl⟩ ?_
  clear a0 a1 a5 a6 a7 t
  rintro n t d g3 ⟨k,ys,c1,a9,a6,a0,a1,a5,a7,rfl,hys,tk,n3,f3⟩
  by_cases hk : k < ls.length
  ·have hne : ls ≠ [] := fun e => by rw [e] at hk; simp at hk
   have tk := tk hne
   obtain ⟨g4,v1,v2,v3,v4⟩ := tk.write (k := k) (y := .int .i32 9999) (by omega) rfl
   repeat' ((first | refine Z0 rfl ?_ | refine Z1 rfl ?_ | refine Z2 ?_ | refine Z3 ?_ | refine Z4 ?_ | refine Z5 ?_ | refine Z6 ?_ | refine Z7 ?_ | refine Z8 ?_ | refine Z9 (fun hif => ?_) (fun hif => ?_) | refine Za (fun hif => ?_) (fun hif => ?_) | refine Zb (fun hif => ?_) (fun hif => ?_) | (refine Zc ?_ ?_; omega) | (refine Zd ?_ ?_; omega) | (refine Ze ?_ ?_; omega) | refine Zf rfl ?_ | (refine And.intro (a := stays _ _ _ = true) ?_ ?_; focus (simp -implicitDefEqProofs (disch := first | assumption | omega) only [sx,sb,sd,se,xwS,xwO,xwI,oEv,xres,o1f,Nat.reduceAdd,Nat.reduceEqDiff,Nat.reduceSub, ↓reduceIte,reduceCtorEq,stays,wantedV,V.same_refl,Bool.and_self,Bool.and_true,beq_self_eq_true,Bool.true_beq,Bool.false_beq,si,sf, *]; done))) <;>
    (try simp -implicitDefEqProofs (disch := first | assumption | omega) only [sx,sb,sd,se,xwS,xwO,xwI,oEv,xres,o1f,Nat.reduceAdd,Nat.reduceEqDiff,Nat.reduceSub, ↓reduceIte,reduceCtorEq,si,sf, *]))
   ·refine ⟨n - 1,by omega,k + 1,_,by omega,by simp,by rw [List.length_set]; exact hys,fun _ => v2,?_⟩
    unfold Kept at f3 ⊢
    intro x q1 q2
    exact (v3.get x (by omega) (q2 trivial)).trans (f3 x q1 fun _ => q2 trivial)
   ·exfalso; omega
  ·repeat' ((first | refine Z0 rfl ?_ | refine Z1 rfl ?_ | refine Z2 ?_ | refine Z3 ?_ | refine Z4 ?_ | refine Z5 ?_ | refine Z6 ?_ | refine Z7 ?_ | refine Z8 ?_ | refine Z9 (fun hif => ?_) (fun hif => ?_) | refine Za (fun hif => ?_) (fun hif => ?_) | refine Zb (fun hif => ?_) (fun hif => ?_) | (refine Zc ?_ ?_; omega) | (refine Zd ?_ ?_; omega) | (refine Ze ?_ ?_; omega) | refine Zf rfl ?_ | (refine And.intro (a := stays _ _ _ = true) ?_ ?_; focus (simp -implicitDefEqProofs (disch := first | assumption | omega) only [sx,sb,sd,se,xwS,xwO,xwI,oEv,xres,o1f,Nat.reduceAdd,Nat.reduceEqDiff,Nat.reduceSub, ↓reduceIte,reduceCtorEq,stays,wantedV,V.same_refl,Bool.and_self,Bool.and_true,beq_self_eq_true,Bool.true_beq,Bool.false_beq,si,sf, *]; done))) <;>
    (try simp -implicitDefEqProofs (disch := first | assumption | omega) only [sx,sb,sd,se,xwS,xwO,xwI,oEv,xres,o1f,Nat.reduceAdd,Nat.reduceEqDiff,Nat.reduceSub, ↓reduceIte,reduceCtorEq,si,sf, *]))
   all_goals (exfalso; omega)
 clear a0 a1 a5 a6 a7 t
 rintro t d g3 ⟨a6,a0,a1,a5,rfl,n3,f3⟩
 have f3' : ∀ x,x < g1.next -> (ls ≠ [] -> rOb w ≠ some x) -> g3.get x = g1.get x := f3
 have hwo : ls ≠ [] -> ∀ x,rOb w = some x -> g.next <= x := fun q x hx => w1.obj (by simpa using q) hx
 have lw3 := lw1.frame (by omega) fun x hx => f3' x (lw1.lt hx).2 fun q e => by have := hwo q x e; have := lw.lt hx; omega
 obtain ⟨g4,v1,v2,v3,v4⟩ := lw3.write (i := i) (y := .int .i64 (Int.negSucc 0)) (by omega) rfl
 have x4 : Ext h g4 := ⟨by have := xg1.next; omega,fun y hy => (v4 y fun e => by have := lw.lt e; omega).trans ((f3' y (by have := xg1.next; omega) fun q e => by have := hwo q y e; have := xg.next; omega).trans (xg1.get y hy))⟩
 clear f3' f3
 repeat' ((first | refine Z0 rfl ?_ | refine Z1 rfl ?_ | refine Z2 ?_ | refine Z3 ?_ | refine Z4 ?_ | refine Z5 ?_ | refine Z6 ?_ | refine Z7 ?_ | refine Z8 ?_ | refine Z9 (fun hif => ?_) (fun hif => ?_) | refine Za (fun hif => ?_) (fun hif => ?_) | refine Zb (fun hif => ?_) (fun hif => ?_) | (refine Zc ?_ ?_; omega) | (refine Zd ?_ ?_; omega) | (refine Ze ?_ ?_; omega) | refine Zf rfl ?_ | (refine And.intro (a := stays _ _ _ = true) ?_ ?_; focus (simp -implicitDefEqProofs (disch := first | assumption | omega) only [sx,sb,sd,se,xwS,xwO,xwI,oEv,xres,o1f,Nat.reduceAdd,Nat.reduceEqDiff,Nat.reduceSub, ↓reduceIte,reduceCtorEq,stays,wantedV,V.same_refl,Bool.and_self,Bool.and_true,beq_self_eq_true,Bool.true_beq,Bool.false_beq,si,sf, *]; done))) <;>
  (try simp -implicitDefEqProofs (disch := first | assumption | omega) only [sx,sb,sd,se,xwS,xwO,xwI,oEv,xres,o1f,Nat.reduceAdd,Nat.reduceEqDiff,Nat.reduceSub, ↓reduceIte,reduceCtorEq,si,sf, *]))
 refine ⟨n - 1,by omega,i + 1,_,by omega,by simp,v2,by rw [List.length_set]; exact hks,?_⟩
 unfold Kept at hkj ⊢
 intro j hj hij
 rw [List.getElem?_set_ne (by omega)]
 exact hkj j hj (by omega)
open Go.Xr Go.Chk
set_option maxHeartbeats 8000000 in
theorem Run_ok {h : Heap} {vars : Int} {cv sv : V} {cs : List (List Int)} {l : List StV} (hc : Cls h cv cs) (hs : Stps h sv l) (hx : ∀ c ∈ cs, ∀ x ∈ c,I32ok x) (hcl : cs.length <= 200) (hd : done cs cs.length <= 1500) (hl : l.length <= 1500) (hll : ∀ s ∈ l,s.s.lits.length <= 1500 /\ s.s.hints.length <= 1500) :
  EvCall xprog H0 17 [.agg [.int .i64 vars,cv],sv] h fun v h' => v = tripV (runAll vars cs (l.map StV.s)) /\ Ext h h' := by
 refine s_call (fn := xf17) rfl (free _ rfl ..) ?_
 generalize hH1 : nCs h [.int .i64 vars,cv] 1 false = H1
 have x1 : Ext h H1 := hH1 ▸ Ext.new ..
 have g1 : H1.get h.next = some (arr [.int .i64 vars,cv] 1 false) := by rw [<- hH1]; exact get_new ..
 have rA : rCs H1 h.next 0 0 2 = some [.int .i64 vars,cv] := readCells_arr g1 (by simp)
 have hnew := New_ok (vars := vars) (hc.ext x1) hx (by omega) (by omega)
 have el := hs.len
 have er := hs.sl.row
 by_cases hr : rightOf vars cs = 0
 ·have hall : runAll vars cs (l.map StV.s) = runOf mayS (Chk.start cs ⟨[],0,false⟩ 1) (l.map StV.s) 0 := by
   unfold runAll
   rw [if_neg (by simpa using hr)]
  have hri : Right6 0 (Chk.start cs ⟨[],0,false⟩ 1) (0 + cs.length) := begun_right cs _ _ 0 ⟨⟨.nil,fun e he => by cases he⟩,(fun e he => by cases he),Nat.le_refl _,Nat.le_refl _⟩ (fun c hm => ⟨right_fine hr c hm,by have := done_mem hm; omega⟩) (by decide) (by decide)
  rw [hall]
  generalize Chk.start cs ⟨[],0,false⟩ 1 = s0 at *
  clear hall
  have hnew : EvCall xprog H0 8 [.agg [.int .i64 vars,cv]] H1 fun v h' => (∃ o b,v = .tup [.ptr o 0 0,.int .i64 0] /\ H1.next <= b /\ ChkP b h' o s0.es s0.last s0.over []) /\ Ext H1 h' := hnew.mono fun v g ⟨q1,q2⟩ => ⟨q1.elim (fun q => absurd hr q.1) fun q => q.2,q2⟩
  simp -implicitDefEqProofs only [xf17,argsFrom_cons,argsFrom_nil]
  repeat' ((first | refine Z0 rfl ?_ | refine Z1 rfl ?_ | refine Z2 ?_ | refine Z3 ?_ | refine Z4 ?_ | refine Z5 ?_ | refine Z6 ?_ | refine Z7 ?_ | refine Z8 ?_ | refine Z9 (fun hif => ?_) (fun hif => ?_) | refine Za (fun hif => ?_) (fun hif => ?_) | refine Zb (fun hif => ?_) (fun hif => ?_) | (refine Zc ?_ ?_; omega) | (refine Zd ?_ ?_; omega) | (refine Ze ?_ ?_; omega) | ((refine eAc hnew ?_; rintro _ g2 ⟨⟨o,b,rfl,hbb,k1⟩,x2⟩))) <;>
   (try simp -implicitDefEqProofs (disch := first | assumption | omega) only [sx,sb,sd,se,xwS,xwO,xwI,oEv,xres,o1f,Nat.reduceAdd,Nat.reduceEqDiff,Nat.reduceSub, ↓reduceIte,reduceCtorEq,sg,wrap_i64,Nat.zero_add,Nat.add_zero, *]))
  refine s_while (fun n t d g => ∃ (i : Nat) (s : Chs),i + n = l.length /\ sO t 9 = .int .i64 i /\ sO t 7 = .ptr o 0 0 /\ sO t 1 = sv /\ d = [] /\ Ext H1 g /\ ChkP b g o s.es s.last s.over [] /\ Right6 0 s (200 + i) /\ runOf mayS s ((l.map StV.s).drop i) i = runOf mayS s0 (l.map StV.s) 0) (fun _ _ _ => frC ..) l.length ⟨0,s0,by omega,by simp [sSe],by simp [sSe],by simp [sSe],rfl,x2,k1,⟨hri.rise,hri.fine,by have := hri.len; omega,Nat.le_trans hri.tot (Nat.mul_le_mul_right _ (by omega))⟩,rfl⟩ ?_
  clear k1 x2 hnew rA
  rintro n t d g ⟨i,s,a1,a2,a3,a4,rfl,xg,k1,k2,k4⟩
  obtain ⟨c1,c2,c3⟩ := k1.reads
  cases hov : s.over with
  | true =>
   rw [hov] at c3
   rw [runOf_over hov] at k4
   rw [<- k4]
   clear k4
   repeat' ((first | refine Z0 rfl ?_ | refine Z1 rfl ?_ | refine Z2 ?_ | refine Z3 ?_ | refine Z4 ?_ | refine Z5 ?_ | refine Z6 ?_ | refine Z7 ?_ | refine Z8 ?_ | refine Z9 (fun hif => ?_) (fun hif => ?_) | refine Za (fun hif => ?_) (fun hif => ?_) | refine Zb (fun hif => ?_) (fun hif => ?_) | (refine Zc ?_ ?_; omega) | (refine Zd ?_ ?_; omega) | (refine Ze ?_ ?_; omega)) <;>
    (try simp -implicitDefEqProofs (disch := first | assumption | omega) only [sx,sb,sd,se,xwS,xwO,xwI,oEv,xres,o1f,Nat.reduceAdd,Nat.reduceEqDiff,Nat.reduceSub, ↓reduceIte,reduceCtorEq,sf, *]))
   all_goals exact ⟨rfl,x1.trans xg⟩
  | false =>
   rw [hov] at c3
   have rs : ∀ (hi : i < l.length),rCs g (objS sv) (genS sv) (offS sv + i * 4) 4 = some [.int .u8 (l[i]).s.kind,.int .i64 (l[i]).s.id,(l[i]).lv,(l[i]).hv] := fun hi => (hs.ext (x1.trans xg)).elem hi
   have hst : ∀ (hi : i < l.length),EvCall xprog H0 11 [.ptr o 0 0,.agg [.int .u8 (l[i]).s.kind,.int .i64 (l[i]).s.id,(l[i]).lv,(l[i]).hv]] g fun v h' => v = .int .i64 (s.step (mayS (l[i]).s) (l[i]).s.kind (l[i]).s.id (l[i]).s.lits (l[i]).s.hints).1 /\ ChkP b h' o (s.step (mayS (l[i]).s) (l[i]).s.kind (l[i]).s.id (l[i]).s.lits (l[i]).s.hints).2.es (s.step (mayS (l[i]).s) (l[i]).s.kind (l[i]).s.id (l[i]).s.lits (l[i]).s.hints).2.last (s.step (mayS (l[i]).s) (l[i]).s.kind (l[i]).s.id (l[i]).s.lits (l[i]).s.hints).2.over [] /\ But (fun x => b <= x) g h' := fun hi => by
    have hm := List.getElem_mem hi
    have hq := hll _ hm
    exact (Step_ok (b := b) (h0 := H1) k1 (N := 200 + i) ⟨k2.rise,k2.fine,k2.len,k2.tot⟩ (by omega) xg hbb (slo_of k1 xg hbb ((hs.lits _ hm).sl.ext x1)) ((hs.hints _ hm).ext x1) (by omega) (by omega)) |>.mono fun v g3 ⟨q1,q2,q3⟩ => ⟨q1,q2,chg_but k1 q3⟩
   have hsr : ∀ (hi : i < l.length),Right6 0 (s.step (mayS (l[i]).s) (l[i]).s.kind (l[i]).s.id (l[i]).s.lits (l[i]).s.hints).2 (200 + i + 1) := fun hi => step_right k2 (by have := (hll _ (List.getElem_mem hi)).1; omega)
   refine s_cut1 (fun t d g1 => sO t 9 = .int .i64 i /\ sO t 7 = .ptr o 0 0 /\ sO t 1 = sv /\ d = [] /\ g1 = g /\ i < l.length) ?_ ?_
   ·repeat' ((first | refine Z0 rfl ?_ | refine Z1 rfl ?_ | refine Z2 ?_ | refine Z3 ?_ | refine Z4 ?_ | refine Z5 ?_ | refine Z6 ?_ | refine Z7 ?_ | refine Z8 ?_ | refine Z9 (fun hif => ?_) (fun hif => ?_) | refine Za (fun hif => ?_) (fun hif => ?_) | refine Zb (fun hif => ?_) (fun hif => ?_) | (refine Zc ?_ ?_; omega) | (refine Zd ?_ ?_; omega) | (refine Ze ?_ ?_; omega)) <;>
     (try simp -implicitDefEqProofs (disch := first | assumption | omega) only [sx,sb,sd,se,xwS,xwO,xwI,oEv,xres,o1f,Nat.reduceAdd,Nat.reduceEqDiff,Nat.reduceSub, ↓reduceIte,reduceCtorEq,sf, *]))
    ·omega
    ·rw [List.drop_eq_nil_of_le (by simp; omega),runOf,hov,show i = l.length by omega] at k4
     rw [<- k4,show i = l.length by omega]
     exact ⟨rfl,x1.trans xg⟩
   clear a2 a3 a4 t
   rintro t d g ⟨a2,a3,a4,rfl,rfl,hi⟩
   replace rs := rs hi
   replace hst := hst hi
   replace hsr := hsr hi
   rw [List.drop_eq_getElem_cons (by simpa using hi),runOf,if_neg (by simp [hov])] at k4
   simp only [List.getElem_map] at k4
   generalize l[i] = st at *
   repeat' ((first | refine Z0 rfl ?_ | refine Z1 rfl ?_ | refine Z2 ?_ | refine Z3 ?_ | refine Z4 ?_ | refine Z5 ?_ | refine Z6 ?_ | refine Z7 ?_ | refine Z8 ?_ | refine Z9 (fun hif => ?_) (fun hif => ?_) | refine Za (fun hif => ?_) (fun hif => ?_) | refine Zb (fun hif => ?_) (fun hif => ?_) | (refine Zc ?_ ?_; omega) | (refine Zd ?_ ?_; omega) | (refine Ze ?_ ?_; omega) | ((refine eAc hst ?_; rintro _ g3 ⟨rfl,k5,k6⟩))) <;>
    (try simp -implicitDefEqProofs (disch := first | assumption | omega) only [sx,sb,sd,se,xwS,xwO,xwI,oEv,xres,o1f,Nat.reduceAdd,Nat.reduceEqDiff,Nat.reduceSub, ↓reduceIte,reduceCtorEq,sf, *]))
   ·rw [if_neg (by simpa using hif)] at k4
    rw [<- k4]
    exact ⟨rfl,x1.trans (xg.butI k6 fun x hx q => by omega)⟩
   ·rw [if_pos (by simpa using ‹(!decide ((s.step (mayS st.s) st.s.kind st.s.id st.s.lits st.s.hints).1 = 0)) = false›)] at k4
    exact ⟨n - 1,by omega,i + 1,_,by omega,by simp,xg.butI k6 fun x hx q => by omega,k5,hsr,k4⟩
 ·have hall : runAll vars cs (l.map StV.s) = (false,0,rightOf vars cs) := by
   unfold runAll
   rw [if_pos hr]
  rw [hall]
  simp -implicitDefEqProofs only [xf17,argsFrom_cons,argsFrom_nil]
  repeat' ((first | refine Z0 rfl ?_ | refine Z1 rfl ?_ | refine Z2 ?_ | refine Z3 ?_ | refine Z4 ?_ | refine Z5 ?_ | refine Z6 ?_ | refine Z7 ?_ | refine Z8 ?_ | refine Z9 (fun hif => ?_) (fun hif => ?_) | refine Za (fun hif => ?_) (fun hif => ?_) | refine Zb (fun hif => ?_) (fun hif => ?_) | (refine Zc ?_ ?_; omega) | (refine Zd ?_ ?_; omega) | (refine Ze ?_ ?_; omega) | ((refine eAc hnew ?_; rintro _ g2 ⟨⟨_,rfl⟩ | ⟨hr2,_⟩,x2⟩; rotate_left; exact absurd hr2 hr))) <;>
   (try simp -implicitDefEqProofs (disch := first | assumption | omega) only [sx,sb,sd,se,xwS,xwO,xwI,oEv,xres,o1f,Nat.reduceAdd,Nat.reduceEqDiff,Nat.reduceSub, ↓reduceIte,reduceCtorEq,sg,wrap_i64,Nat.zero_add,Nat.add_zero, *]))
  exact ⟨rfl,x1.trans x2⟩
open Go.Xr Go.Chk
def worksSt (A B C : V) : List StV := [⟨⟨1,5,[1],[1,2]⟩,A,B⟩,⟨⟨1,6,[],[5,3,4]⟩,.nils,C⟩]
theorem runAll_works (A B C : V) : runAll 2 fourCs ((worksSt A B C).map StV.s) = (true,2,0) := by
 show runAll 2 [[1,2],[1, -2],[-1,2],[-1, -2]] [⟨1,5,[1],[1,2]⟩,⟨1,6,[],[5,3,4]⟩] = (true,2,0)
 decide +kernel
set_option maxHeartbeats 4000000 in
theorem works_ok (h : Heap) : EvCall xprog H0 5 [] h fun v h' => v = .bool true /\ Ext h h' := by
 refine s_call (fn := xf5) rfl (free _ rfl ..) ?_
 simp -implicitDefEqProofs only [xf5,argsFrom_cons,argsFrom_nil]
 repeat' ((first | refine Z0 rfl ?_ | refine Z1 rfl ?_ | refine Z2 ?_ | refine Z3 ?_ | refine Z4 ?_ | refine Z5 ?_ | refine Z6 ?_ | refine Z7 ?_ | refine Z8 ?_ | refine Z9 (fun hif => ?_) (fun hif => ?_) | refine Za (fun hif => ?_) (fun hif => ?_) | refine Zb (fun hif => ?_) (fun hif => ?_) | (refine Zc ?_ ?_; omega) | (refine Zd ?_ ?_; omega) | (refine Ze ?_ ?_; omega) | ((refine eAc (four_ok _) ?_; rintro _ g1 ⟨⟨cv,rfl,s1⟩,x1⟩)) | ((refine eAc (add_ok 5 _ _ rfl rfl) ?_; rintro _ g2 ⟨rfl,x2⟩)) | ((refine eAc (add_ok 6 _ _ rfl rfl) ?_; rintro _ g3 ⟨rfl,x3⟩))) <;>
  (try simp -implicitDefEqProofs (disch := first | assumption | omega) only [sx,sb,sd,se,xwS,xwO,xwI,oEv,xres,o1f,Nat.reduceAdd,Nat.reduceEqDiff,Nat.reduceSub, ↓reduceIte,reduceCtorEq,si,sh,cellsOf_slice,fillV,parts,over,Nat.beq_refl,Nat.ble, *]))
 have xB := x2.trans ((Ext.new g2 [.int .i64 5,.int .i64 3,.int .i64 4] 1 false).trans (x3.trans (Ext.new g3 [.int .u8 1,.int .i64 5,.slice g1.next 0 0 1 (.exact 1),.slice (g1.next + 1) 0 0 2 (.exact 2),.int .u8 1,.int .i64 6,.nils,.slice g2.next 0 0 3 (.exact 3)] 4 false)))
 have xC := x3.trans (Ext.new g3 [.int .u8 1,.int .i64 5,.slice g1.next 0 0 1 (.exact 1),.slice (g1.next + 1) 0 0 2 (.exact 2),.int .u8 1,.int .i64 6,.nils,.slice g2.next 0 0 3 (.exact 3)] 4 false)
 have sA := (sw_new (o := g1.next) (vs := [V.int .i32 1]) (sp := false) (get_new g1 _ 1 false) (by simp) rfl).ext ((Ext.new _ [.int .i64 1,.int .i64 2] 1 false).trans xB)
 have sB := (sw_new (o := g1.next + 1) (vs := [V.int .i64 1,.int .i64 2]) (sp := false) (get_new (nCs g1 [.int .i32 1] 1 false) _ 1 false) (by simp) rfl).ext xB
 have sC := (sw_new (o := g2.next) (vs := [V.int .i64 5,.int .i64 3,.int .i64 4]) (sp := false) (get_new g2 _ 1 false) (by simp) rfl).ext xC
 have hG := get_new g3 [.int .u8 1,.int .i64 5,.slice g1.next 0 0 1 (.exact 1),.slice (g1.next + 1) 0 0 2 (.exact 2),.int .u8 1,.int .i64 6,.nils,.slice g2.next 0 0 3 (.exact 3)] 4 false
 have xall := x1.trans ((Ext.new g1 [.int .i32 1] 1 false).trans ((Ext.new _ [.int .i64 1,.int .i64 2] 1 false).trans xB))
 have hcls := s1.ext ((Ext.new g1 [.int .i32 1] 1 false).trans ((Ext.new _ [.int .i64 1,.int .i64 2] 1 false).trans xB))
 have hnx : g3.next < (nCs g3 [.int .u8 1,.int .i64 5,.slice g1.next 0 0 1 (.exact 1),.slice (g1.next + 1) 0 0 2 (.exact 2),.int .u8 1,.int .i64 6,.nils,.slice g2.next 0 0 3 (.exact 3)] 4 false).next := Nat.lt_succ_self _
 generalize nCs g3 [.int .u8 1,.int .i64 5,.slice g1.next 0 0 1 (.exact 1),.slice (g1.next + 1) 0 0 2 (.exact 2),.int .u8 1,.int .i64 6,.nils,.slice g2.next 0 0 3 (.exact 3)] 4 false = G at *
 have hst : Stps G (.slice g3.next 0 0 2 (.exact 2)) (worksSt (.slice g1.next 0 0 1 (.exact 1)) (.slice (g1.next + 1) 0 0 2 (.exact 2)) (.slice g2.next 0 0 3 (.exact 3))) := by
  refine ⟨⟨rfl,rfl,fun i hi => ?_⟩,fun s hs => ?_,fun s hs => ?_⟩
  ·have hi2 : i = 0 \/ i = 1 := by simp [worksSt] at hi; omega
   rcases hi2 with rfl | rfl
   ·exact ⟨hnx,rfl,readCells_arr hG (by simp)⟩
   ·exact ⟨hnx,rfl,readCells_arr hG (by simp)⟩
  ·simp only [worksSt,List.mem_cons,List.not_mem_nil,or_false] at hs
   rcases hs with rfl | rfl
   ·exact sA
   ·exact .inl ⟨rfl,rfl⟩
  ·simp only [worksSt,List.mem_cons,List.not_mem_nil,or_false] at hs
   rcases hs with rfl | rfl
   ·exact sB
   ·exact sC
 refine eAc (Run_ok (vars := 2) (cs := fourCs) hcls hst (by simp [fourCs,I32ok]) (by decide) (by decide) (by simp [worksSt]) (by simp [worksSt])) ?_
 rintro _ g4 ⟨rfl,x4⟩
 rw [runAll_works]
 clear hst sA sB sC hG xB xC hcls
 repeat' ((first | refine Z0 rfl ?_ | refine Z1 rfl ?_ | refine Z2 ?_ | refine Z3 ?_ | refine Z4 ?_ | refine Z5 ?_ | refine Z6 ?_ | refine Z7 ?_ | refine Z8 ?_ | refine Z9 (fun hif => ?_) (fun hif => ?_) | refine Za (fun hif => ?_) (fun hif => ?_) | refine Zb (fun hif => ?_) (fun hif => ?_) | (refine Zc ?_ ?_; omega) | (refine Zd ?_ ?_; omega) | (refine Ze ?_ ?_; omega)) <;>
  (try simp -implicitDefEqProofs (disch := first | assumption | omega) only [sx,sb,sd,se,xwS,xwO,xwI,oEv,xres,o1f,Nat.reduceAdd,Nat.reduceEqDiff,Nat.reduceSub, ↓reduceIte,reduceCtorEq,sg,tripV, *]))
 exact xall.trans x4
set_option maxHeartbeats 4000000 in
theorem Size2_ok {h : Heap} {v : V} {l : List StV} (hs : Stps h v l) :
  EvCall xprog H0 16 [v,.int .i64 1500] h fun r h' => (∃ n : Int,r = .int .i64 n /\ (n <= 1500 -> l.length <= 1500 /\ ∀ s ∈ l,s.s.lits.length <= 1500 /\ s.s.hints.length <= 1500)) /\ h' = h := by
 refine s_call (fn := xf16) rfl (free _ rfl ..) ?_
 have el := hs.len
 have er := hs.sl.row
 simp -implicitDefEqProofs only [xf16,argsFrom_cons,argsFrom_nil]
 repeat' ((first | refine Z0 rfl ?_ | refine Z1 rfl ?_ | refine Z2 ?_ | refine Z3 ?_ | refine Z4 ?_ | refine Z5 ?_ | refine Z6 ?_ | refine Z7 ?_ | refine Z8 ?_ | refine Z9 (fun hif => ?_) (fun hif => ?_) | refine Za (fun hif => ?_) (fun hif => ?_) | refine Zb (fun hif => ?_) (fun hif => ?_) | (refine Zc ?_ ?_; omega) | (refine Zd ?_ ?_; omega) | (refine Ze ?_ ?_; omega)) <;>
  (try simp -implicitDefEqProofs (disch := first | assumption | omega) only [sx,sb,sd,se,xwS,xwO,xwI,oEv,xres,o1f,Nat.reduceAdd,Nat.reduceEqDiff,Nat.reduceSub, ↓reduceIte,reduceCtorEq,wrap_i64, *]))
 refine s_while (fun n t d g => ∃ (i c : Nat),i + n = l.length /\ sO t 6 = .int .i64 i /\ sO t 5 = .int .i64 c /\ sO t 0 = v /\ sO t 1 = .int .i64 1500 /\ d = [] /\ g = h /\ i <= c /\ c <= 4501 /\ ∀ j (hj : j < l.length),j < i -> min (l[j]).s.lits.length 1500 + min (l[j]).s.hints.length 1500 < c) (fun _ _ _ => frC ..) l.length ⟨0,0,by omega,by simp [sSe],by simp [sSe],by simp [sSe],by simp [sSe],rfl,rfl,Nat.le_refl _,by omega,fun j _ hj => by omega⟩ ?_
 rintro n t d g ⟨i,c,a1,a2,a3,a4,a5,rfl,rfl,a6,a7,a8⟩
 have r2 : ∀ (hi : i < l.length),rCs g (objS v) (genS v) (offS v + i * 4 + 2) 1 = some [(l[i]).lv] := fun hi => hs.at hi rfl
 have r3 : ∀ (hi : i < l.length),rCs g (objS v) (genS v) (offS v + i * 4 + 3) 1 = some [(l[i]).hv] := fun hi => hs.at hi rfl
 have l2 : ∀ (hi : i < l.length),lenS (l[i]).lv = (l[i]).s.lits.length := fun hi => by rw [(hs.lits _ (List.getElem_mem hi)).sl.len,List.length_map]
 have l3 : ∀ (hi : i < l.length),lenS (l[i]).hv = (l[i]).s.hints.length := fun hi => by rw [(hs.hints _ (List.getElem_mem hi)).sl.len,List.length_map]
 have w2 : ∀ (hi : i < l.length),rowS (l[i]).lv = true := fun hi => (hs.lits _ (List.getElem_mem hi)).sl.row
 have w3 : ∀ (hi : i < l.length),rowS (l[i]).hv = true := fun hi => (hs.hints _ (List.getElem_mem hi)).sl.row
 repeat' ((first | refine Z0 rfl ?_ | refine Z1 rfl ?_ | refine Z2 ?_ | refine Z3 ?_ | refine Z4 ?_ | refine Z5 ?_ | refine Z6 ?_ | refine Z7 ?_ | refine Z8 ?_ | refine Z9 (fun hif => ?_) (fun hif => ?_) | refine Za (fun hif => ?_) (fun hif => ?_) | refine Zb (fun hif => ?_) (fun hif => ?_) | (refine Zc ?_ ?_; omega) | (refine Zd ?_ ?_; omega) | (refine Ze ?_ ?_; omega) | ((refine x_min rfl rfl ?_))) <;>
  (try simp -implicitDefEqProofs (disch := first | assumption | omega) only [sx,sb,sd,se,xwS,xwO,xwI,oEv,xres,o1f,Nat.reduceAdd,Nat.reduceEqDiff,Nat.reduceSub, ↓reduceIte,reduceCtorEq,wrap_i64,Int.toNat_natCast, *]))
 ·refine ⟨n - 1,by omega,i + 1,c + 1 + min (l[i]).s.lits.length 1500 + min (l[i]).s.hints.length 1500,by omega,by simp,congrArg (V.int .i64) ?_,by omega,by omega,fun j hj hlt => ?_⟩
  ·split <;> split <;> omega
  ·rcases Nat.lt_succ_iff_lt_or_eq.1 hlt with h | rfl
   ·have := a8 j hj h
    omega
   ·omega
 all_goals
  refine ⟨c,rfl,fun hc => ⟨by omega,fun s hm => ?_⟩⟩
  obtain ⟨j,hj,rfl⟩ := List.getElem_of_mem hm
  have := a8 j hj (by omega)
  omega
set_option maxHeartbeats 4000000 in
theorem large2_ok {h : Heap} {vars : Int} {cv v : V} {cs : List (List Int)} {l : List StV} (hc : Cls h cv cs) (hs : Stps h v l) :
  EvCall xprog H0 4 [.agg [.int .i64 vars,cv],v] h fun r h' => (∃ b : Bool,r = .bool b /\ (b = false -> cs.length <= 200 /\ done cs cs.length <= 1500 /\ l.length <= 1500 /\ ∀ s ∈ l,s.s.lits.length <= 1500 /\ s.s.hints.length <= 1500)) /\ Ext h h' := by
 refine s_call (fn := xf4) rfl (free _ rfl ..) ?_
 generalize hH1 : nCs h [.int .i64 vars,cv] 1 false = H1
 have x1 : Ext h H1 := hH1 ▸ Ext.new ..
 have g1 : H1.get h.next = some (arr [.int .i64 vars,cv] 1 false) := by rw [<- hH1]; exact get_new ..
 have r1 := rCl (off := 1) g1 rfl
 obtain ⟨vs,hsv,hvl,hcs⟩ := hc.ext x1
 have el := hsv.len
 have er := hsv.row
 rw [hvl] at el
 have hz := Size2_ok (hs.ext x1)
 clear hc g1
 simp -implicitDefEqProofs only [xf4,argsFrom_cons,argsFrom_nil]
 repeat' ((first | refine Z0 rfl ?_ | refine Z1 rfl ?_ | refine Z2 ?_ | refine Z3 ?_ | refine Z4 ?_ | refine Z5 ?_ | refine Z6 ?_ | refine Z7 ?_ | refine Z8 ?_ | refine Z9 (fun hif => ?_) (fun hif => ?_) | refine Za (fun hif => ?_) (fun hif => ?_) | refine Zb (fun hif => ?_) (fun hif => ?_) | (refine Zc ?_ ?_; omega) | (refine Zd ?_ ?_; omega) | (refine Ze ?_ ?_; omega)) <;>
  (try simp -implicitDefEqProofs (disch := first | assumption | omega) only [sx,sb,sd,se,xwS,xwO,xwI,oEv,xres,o1f,Nat.reduceAdd,Nat.reduceEqDiff,Nat.reduceSub, ↓reduceIte,reduceCtorEq,wrap_i64,Nat.zero_add, *]))
 refine s_while (fun n t d g => ∃ (i c : Nat),i + n = cs.length /\ sO t 6 = .int .i64 i /\ sO t 5 = .int .i64 c /\ sO t 2 = .ptr h.next 0 0 /\ sO t 1 = v /\ d = [] /\ g = H1 /\ c <= 3001 /\ (c <= 1500 -> done cs i + i <= c)) (fun _ _ _ => frC ..) cs.length ⟨0,0,by omega,by simp [sSe],by simp [sSe],by simp [sSe],by simp [sSe],rfl,rfl,by omega,fun _ => by simp [done]⟩ ?_
 rintro n t d g ⟨i,c,a1,a2,a3,a4,a5,rfl,rfl,a7,a8⟩
 have rc : i < cs.length -> rCs g (objS cv) (genS cv) (offS cv + i) 1 = some [vs.getD i .nils] := fun hi => hsv.at (by simp [show i < vs.length by omega])
 have hlc : ∀ (hi : i < cs.length),lenS (vs.getD i .nils) = (cs[i]).length := fun hi => by rw [(hcs i hi).len,List.length_map]
 have hrc : i < cs.length -> rowS (vs.getD i .nils) = true := fun hi => (hcs i hi).row
 have hd : ∀ (hi : i < cs.length),done cs (i + 1) = done cs i + (cs[i]).length := fun hi => done_succ hi
 repeat' ((first | refine Z0 rfl ?_ | refine Z1 rfl ?_ | refine Z2 ?_ | refine Z3 ?_ | refine Z4 ?_ | refine Z5 ?_ | refine Z6 ?_ | refine Z7 ?_ | refine Z8 ?_ | refine Z9 (fun hif => ?_) (fun hif => ?_) | refine Za (fun hif => ?_) (fun hif => ?_) | refine Zb (fun hif => ?_) (fun hif => ?_) | (refine Zc ?_ ?_; omega) | (refine Zd ?_ ?_; omega) | (refine Ze ?_ ?_; omega) | ((refine eAc hz ?_; rintro _ _ ⟨⟨sz,rfl,hsz⟩,rfl⟩))) <;>
  (try simp -implicitDefEqProofs (disch := first | assumption | omega) only [sx,sb,sd,se,xwS,xwO,xwI,oEv,xres,o1f,Nat.reduceAdd,Nat.reduceEqDiff,Nat.reduceSub, ↓reduceIte,reduceCtorEq,wrap_i64,Nat.zero_add,Int.toNat_natCast, *]))
 ·refine ⟨n - 1,by omega,i + 1,c + 1 + min (cs[i]).length 1500,by omega,by simp,congrArg (V.int .i64) ?_,by omega,fun hlt => ?_⟩
  ·split <;> omega
  ·have := hd (by omega)
   omega
 all_goals first
  | exact ⟨true,rfl,fun e => by cases e⟩
  | (exfalso; omega)
  | (refine ⟨_,rfl,fun hb => ?_⟩; have hb := of_decide_eq_false hb; obtain ⟨z1,z2⟩ := hsz (by omega); have hi : i = cs.length := (by omega); subst hi; exact ⟨by omega,by omega,z1,z2⟩)
end Go.Proofs.YtmkbnbpblhoekaaGreat
