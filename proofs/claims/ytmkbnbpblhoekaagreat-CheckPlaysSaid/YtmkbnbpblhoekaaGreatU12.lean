/- Part of a proof for X's executor: what the program's functions answer. -/
import Derived.Test.YtmkbnbpblhoekaaGreatU11
set_option linter.unusedSimpArgs false
set_option linter.unusedVariables false
set_option linter.unusedSectionVars false
namespace Go.Proofs.YtmkbnbpblhoekaaGreat
open Go.Xr Go.Chk
def mG : MapLoop := ⟨.slot 73,74,75,2,3,r42_15,.seq (.region false r42_16) (.cond (.slot 91) (.seq (.region false r42_17) .ret) .skip)⟩
def miss (es : List (Int × List Int)) (p : Int) (met : List Int) : Bool := es.any fun e => decide (-p ∈ e.2 /\ e.1 ∉ met)
theorem leftOf_le {seen : List Int} : ∀ (es : List (Int × V)),(Xr.leftOf seen es).length <= es.length
 | [] => Nat.le_refl _
 | (a,v) :: r => by
  have := leftOf_le (seen := seen) r
  unfold Xr.leftOf
  cases seen.any fun b => decide (b = a)
  ·simp; omega
  ·simp; omega
set_option maxHeartbeats 8000000 in
theorem grange {b : Nat} {g0 : Heap} {o : Nat} {es : List (Int × List Int)} {last : Int} {ov : Bool} {vs tr : List Int} {mo : Nat} {ces : List (Int × V)} {ins : Nat} {vv tv : V} (hm : ChkM b g0 o es last ov vs tr mo ces ins vv tv) (hr : Rise es last) (hf : ∀ e ∈ es,Fine e.2 /\ e.2.length <= 1000000) {mm : Nat} {mes : List (Int × V)} {mins : Nat} {met : List Int} {p : Int}
  (hmm : g0.get mm = some (.map .i64 mes mins)) (hml : mm < g0.next) (hmet : ∀ k,hasKey k mes = if k ∈ met then some (.bool true) else none) (hp : -1048576 <= p /\ p <= 1048576) {t : Tr V} {d : List XDef} (h73 : sO t 73 = .iter g0.next) (h7 : sO t 7 = .map mm) (h1 : sO t 1 = .int .i32 p) (hu : ∀ i ∈ slotsG,vFits (sO t i) .any = true)
  {eM : XExit} {tM : Tr V} (he : (miss es p met = true /\ eM = .ret /\ tM = (anyAll t slotsG).set 6 (.int .i64 61)) \/ (miss es p met = false /\ eM = .exit 2 /\ tM = anyAll t slotsG)) :
  ∃ n,AllTo xprog Hb mG none eM tM d ((g0.push (.miter (some mo) ins [] none)).put g0.next (.dead true)) n t d (g0.push (.miter (some mo) ins [] none)) := by
 have hms : miss es p met = true ↔ ∃ k l,find es k = some l /\ -p ∈ l /\ k ∉ met := by
  unfold miss
  rw [List.any_eq_true]
  constructor
  ·rintro ⟨⟨k,l⟩,q1,q2⟩
   have q2 := of_decide_eq_true q2
   exact ⟨k,l,find_mem hr.1 q1,q2.1,q2.2⟩
  ·rintro ⟨k,l,q1,q2,q3⟩
   exact ⟨(k,l),find_some q1,decide_eq_true ⟨q2,q3⟩⟩
 have wp : IntKind.i32.wrap (-p) = -p := wneg hp.1 hp.2
 have hget : ∀ {h : Heap},Ext g0 h -> h.get mo = some (.map .i64 ces ins) /\ h.get mm = some (.map .i64 mes mins) := fun x => ⟨(x.get mo hm.hm).trans hm.map,(x.get mm hml).trans hmm⟩
 have hext : ∀ {h : Heap},(∀ x,x ≠ g0.next -> h.get x = (g0.push (.miter (some mo) ins [] none)).get x) -> h.next = g0.next + 1 -> Ext g0 h := fun q1 q2 => ⟨by omega,fun x hx => (q1 x (by omega)).trans ((Ext.push _ _).get x hx)⟩
 have hG : (g0.push (.miter (some mo) ins [] none)).next = g0.next + 1 := rfl
 refine ⟨ces.length + 1,allTo_of (ins := ins) (kd := .i64) (es := ces) (oi := g0.next) (mo := mo) (fun seen t' d' h => sO t' 73 = .iter g0.next /\ sO t' 7 = .map mm /\ sO t' 1 = .int .i32 p /\ (∃ cur,h.get g0.next = some (.miter (some mo) ins seen cur)) /\ (∀ x,x ≠ g0.next -> h.get x = (g0.push (.miter (some mo) ins [] none)).get x) /\ h.next = g0.next + 1 /\ d' = d /\ (∀ i,i ∉ slotsG -> sO t' i = sO t i) /\ (∀ i ∈ slotsG,vFits (sO t' i) .any = true) /\ ∀ k ∈ seen, ∀ l,find es k = some l -> -p ∈ l -> k ∈ met) ?_ ?_ ?_ _ [] t d _ ?_ ⟨h73,h7,h1,⟨none,by rw [Heap.get_push,if_pos rfl]⟩,fun _ _ => rfl,rfl,rfl,fun _ _ => rfl,hu,fun k hk => by cases hk⟩⟩
 ·rintro seen t' d' h ⟨q1,q2,q3,q4,q5,q6,q7,q8,q9,q10⟩
  exact ⟨q1,q4,(hget (hext q5 q6)).1⟩
 ·rintro seen t' d' h ⟨q1,q2,q3,q4,q5,q6,q7,q8,q9,q10⟩ hall
  rcases he with ⟨e1,_,_⟩ | ⟨e1,rfl,rfl⟩
  ·obtain ⟨k,l,f1,f2,f3⟩ := hms.1 e1
   rcases hm.held k with ⟨f4,_⟩ | ⟨l',ho,lv,sv,f4,f5,_⟩
   ·rw [f4] at f1; cases f1
   ·exact absurd (q10 k (hall _ (hasKey_mem f5)) l f1 f2) f3
  ·refine ⟨rfl,tfits_any (fun i hi => ?_) fun i hi => ?_,q7,hfits_dead q5 (by rw [q6,hG]) (by rw [hG]; exact Nat.lt_succ_self _)⟩
   ·have hi2 := hi
    simp only [slotsG,List.mem_cons,List.not_mem_nil,or_false,not_or] at hi2
    simp only [mG,sSe]
    rw [if_neg (by omega),if_neg (by omega)]
    exact q8 i hi
   ·simp only [mG,sSe]
    split
    ·rfl
    ·split
     ·rfl
     ·exact q9 i hi
 ·rintro seen t' d' h k v ⟨q1,q2,q3,q4,q5,q6,q7,q8,q9,q10⟩ hk hns
  obtain ⟨l,ho,lv,sv,f1,f2,hh⟩ : ∃ l ho lv sv,find es k = some l /\ hasKey k ces = some (.ptr ho 0 0) /\ HeldAt g0 o ho lv sv l := by
   have := mem_hasKey (keysND hm.keys) hk
   rcases hm.held k with ⟨_,f5⟩ | q
   ·rw [f5] at this; cases this
   ·exact q
  have hv : v = .ptr ho 0 0 := by
   have := mem_hasKey (keysND hm.keys) hk
   rw [f2] at this
   exact (Option.some.inj this).symm
  subst hv
  have hH1 : ∀ x,x ≠ g0.next -> (h.put g0.next (.miter (some mo) ins (k :: seen) (some k))).get x = (g0.push (.miter (some mo) ins [] none)).get x := fun x hx => by rw [Heap.get_put,if_neg hx]; exact q5 x hx
  have hH2 : (h.put g0.next (.miter (some mo) ins (k :: seen) (some k))).get g0.next = some (.miter (some mo) ins (k :: seen) (some k)) := by rw [Heap.get_put,if_pos rfl]
  have hH3 : (h.put g0.next (.miter (some mo) ins (k :: seen) (some k))).next = g0.next + 1 := q6
  generalize h.put g0.next (.miter (some mo) ins (k :: seen) (some k)) = H at *
  have hx := hext hH1 hH3
  obtain ⟨gmo,gmm⟩ := hget hx
  have r1 := rCl (off := 1) ((hx.get ho hh.lt).trans hh.get) rfl
  have hfl := (hf (k,l) (find_some f1)).2
  have hnl := lenNrm l
  have hcon : ∀ z,EvCall xprog Hb 60 [sv,.int .i32 z] H fun v h' => v = .bool (decide (z ∈ l)) /\ h' = H := fun z => (Contains_okb ((hh.set.1).ext hx) (by simp only at hfl; omega) z).mono fun v h' q => by rw [q.1,q.2]; exact ⟨by simp only [nrm_alike l _],rfl⟩
  have hmk := hmet k
  have hH1k : Kept (∀ x,x ≠ g0.next -> H.get x = (g0.push (.miter (some mo) ins [] none)).get x) := hH1
  clear hmet hget hext hk q4 q5 q6 hfl hnl hH1
  unfold MapLoop.rest
  simp only [mG]
  by_cases hkm : k ∈ met
  ·rw [if_pos hkm] at hmk
   repeat' ((first | refine Z0 rfl ?_ | refine Z1 rfl ?_ | refine Z2 ?_ | refine Z3 ?_ | refine Z4 ?_ | refine Z5 ?_ | refine Z6 ?_ | refine Z7 ?_ | refine Z8 ?_ | refine Z9 (fun hif => ?_) (fun hif => ?_) | refine Za (fun hif => ?_) (fun hif => ?_) | refine Zb (fun hif => ?_) (fun hif => ?_) | (refine Zc ?_ ?_; omega) | (refine Zd ?_ ?_; omega) | (refine Ze ?_ ?_; omega) | refine Zf rfl ?_ | (refine And.intro (a := stays _ _ _ = true) ?_ ?_; focus (simp -implicitDefEqProofs (disch := first | assumption | omega) only [sx,sb,sd,se,xwS,xwO,xwI,oEv,xres,o1f,Nat.reduceAdd,Nat.reduceEqDiff,Nat.reduceSub, ↓reduceIte,reduceCtorEq,stays,wantedV,V.same_refl,Bool.and_self,Bool.and_true,beq_self_eq_true,Bool.true_beq,Bool.false_beq,sg,kindEq,tellV,Nat.beq_refl, *]; done)) | (refine (eCi (hcon _)).2 ?_)) <;>
    (try simp -implicitDefEqProofs (disch := first | assumption | omega) only [sx,sb,sd,se,xwS,xwO,xwI,oEv,xres,o1f,Nat.reduceAdd,Nat.reduceEqDiff,Nat.reduceSub, ↓reduceIte,reduceCtorEq,sg,kindEq,tellV,Nat.beq_refl, *]))
   simp only [outOf_normal]
   refine ⟨by simp [sSe,q1],by simp [sSe,q2],by simp [sSe,q3],⟨_,hH2⟩,hH1k,hH3,by first | exact q7 | trivial,fun i hi => ?_,?_,fun k' hk' l' f1' f2' => ?_⟩
   ·have hi2 := hi
    simp only [slotsG,List.mem_cons,List.not_mem_nil,or_false,not_or] at hi2
    simp only [sSe]
    simp [hi2]
    exact q8 i hi
   ·simp [slotsG,sSe,vFits,V.undef]
   ·rcases List.mem_cons.1 hk' with rfl | hk'
    ·exact hkm
    ·exact q10 k' hk' l' f1' f2'
  ·rw [if_neg hkm] at hmk
   repeat' ((first | refine Z0 rfl ?_ | refine Z1 rfl ?_ | refine Z2 ?_ | refine Z3 ?_ | refine Z4 ?_ | refine Z5 ?_ | refine Z6 ?_ | refine Z7 ?_ | refine Z8 ?_ | refine Z9 (fun hif => ?_) (fun hif => ?_) | refine Za (fun hif => ?_) (fun hif => ?_) | refine Zb (fun hif => ?_) (fun hif => ?_) | (refine Zc ?_ ?_; omega) | (refine Zd ?_ ?_; omega) | (refine Ze ?_ ?_; omega) | refine Zf rfl ?_ | (refine And.intro (a := stays _ _ _ = true) ?_ ?_; focus (simp -implicitDefEqProofs (disch := first | assumption | omega) only [sx,sb,sd,se,xwS,xwO,xwI,oEv,xres,o1f,Nat.reduceAdd,Nat.reduceEqDiff,Nat.reduceSub, ↓reduceIte,reduceCtorEq,stays,wantedV,V.same_refl,Bool.and_self,Bool.and_true,beq_self_eq_true,Bool.true_beq,Bool.false_beq,sg,kindEq,tellV,Nat.beq_refl, *]; done)) | (refine (eCi (hcon _)).2 ?_)) <;>
    (try simp -implicitDefEqProofs (disch := first | assumption | omega) only [sx,sb,sd,se,xwS,xwO,xwI,oEv,xres,o1f,Nat.reduceAdd,Nat.reduceEqDiff,Nat.reduceSub, ↓reduceIte,reduceCtorEq,sg,kindEq,tellV,Nat.beq_refl, *]))
   ·rcases he with ⟨_,rfl,rfl⟩ | ⟨e1,_,_⟩
    ·have hfd := hfits_dead hH1k (by rw [hH3,hG]) (by rw [hG]; exact Nat.lt_succ_self _)
     refine ⟨rfl,fun i => ?_,by first | exact hfd | exact ⟨q7,hfd⟩ | exact ⟨trivial,hfd⟩⟩
     by_cases h6 : i = 6
     ·subst h6
      simp [sSe,vFits_refl]
     have h6' : ∀ t : Tr V,sO (t.set 6 (.int .i64 61)) i = sO t i := fun t => by rw [sSe,if_neg h6]
     simp only [h6',slotOf_anyAll]
     by_cases hi : i ∈ slotsG
     ·rw [if_pos hi]
      clear h6 h6'
      revert hi
      revert i
      simp [slotsG,sSe,vFits,V.undef]
      all_goals (have hrw := hh.set.1.row; cases sv <;> first | rfl | cases hrw)
     ·rw [if_neg hi]
      have hi2 := hi
      simp only [slotsG,List.mem_cons,List.not_mem_nil,or_false,not_or] at hi2
      simp only [sSe]
      simp [hi2]
      rw [q8 i hi]
      exact vFits_refl _
    ·exfalso
     have := hms.2 ⟨k,l,f1,by assumption,hkm⟩
     rw [e1] at this
     cases this
   ·simp only [outOf_normal]
    refine ⟨by simp [sSe,q1],by simp [sSe,q2],by simp [sSe,q3],⟨_,hH2⟩,hH1k,hH3,by first | exact q7 | trivial,fun i hi => ?_,?_,fun k' hk' l' f1' f2' => ?_⟩
    ·have hi2 := hi
     simp only [slotsG,List.mem_cons,List.not_mem_nil,or_false,not_or] at hi2
     simp only [sSe]
     simp [hi2]
     exact q8 i hi
    ·simp [slotsG,sSe,vFits,V.undef]
     all_goals (have hrw := hh.set.1.row; cases sv <;> first | rfl | cases hrw)
    ·rcases List.mem_cons.1 hk' with rfl | hk'
     ·rw [f1] at f1'
      cases f1'
      exact absurd f2' (by assumption)
     ·exact q10 k' hk' l' f1' f2'
 ·exact Nat.lt_succ_of_le (leftOf_le _)
open Go.Xr Go.Chk
theorem hasKey_addKey {n : Int} {v : V} : ∀ {es : List (Int × V)} {k : Int},hasKey k (addKey n v es) = if k = n then some v else hasKey k es
 | [],k => by
  unfold addKey hasKey
  by_cases h : k = n
  ·rw [if_pos h,decide_eq_true h.symm]
  ·rw [if_neg h,decide_eq_false (fun e => h e.symm)]
   rfl
 | (a,x) :: r,k => by
  unfold addKey
  by_cases h1 : n < a
  ·rw [decide_eq_true h1]
   simp only
   rw [hasKey]
   by_cases h : k = n
   ·rw [if_pos h,decide_eq_true h.symm]
   ·rw [if_neg h,decide_eq_false (fun e => h e.symm)]
  ·rw [decide_eq_false h1]
   simp only
   by_cases h2 : a < n
   ·rw [decide_eq_true h2]
    simp only
    unfold hasKey
    by_cases hk : a = k
    ·rw [decide_eq_true hk,if_neg (by omega)]
    ·rw [decide_eq_false hk]
     exact hasKey_addKey
   ·rw [decide_eq_false h2]
    simp only
    unfold hasKey
    by_cases h : k = n
    ·rw [if_pos h,decide_eq_true h.symm]
    ·rw [if_neg h,decide_eq_false (fun e => h e.symm),decide_eq_false (by omega)]
theorem Mut.low {b : Nat} {h : Heap} {o x : Nat} {es : List (Int × List Int)} {last : Int} {ov : Bool} {tr : List Int} (hc : ChkP b h o es last ov tr) (hx : Mut h o x) : b <= x := by
 obtain ⟨vs,mo,ces,ins,vv,tv,hm,hg⟩ := hc
 rcases (mut_iff hm.get).1 hx with rfl | rfl | q | q
 ·exact hm.bo
 ·exact hm.bm
 ·exact (hm.val.lt q).1
 ·exact (hm.trl.lt q).1
theorem ext_chg {b : Nat} {h0 h h' : Heap} {o : Nat} {es : List (Int × List Int)} {last : Int} {ov : Bool} {tr : List Int} (hc : ChkP b h o es last ov tr) (x : Ext h0 h) (hb : h0.next <= b) (c : Chg o h h') : Ext h0 h' :=
 ⟨Nat.le_trans x.next c.but.next,fun y hy => (c.but.get y (Nat.lt_of_lt_of_le hy x.next) fun q => by have := Mut.low hc q; omega).trans (x.get y hy)⟩
theorem slo_of {k : IntKind} {b : Nat} {h0 h : Heap} {o : Nat} {es : List (Int × List Int)} {last : Int} {ov : Bool} {tr : List Int} {v : V} {xs : List Int} (hc : ChkP b h o es last ov tr) (x : Ext h0 h) (hb : h0.next <= b) (hs : Sl h0 v (xs.map (.int k))) : SlO k h o v xs := by
 refine ⟨hs.ext x,fun hne y hy q => ?_⟩
 have := Mut.low hc q
 rcases hs with ⟨rfl,_⟩ | ⟨o',g,off,cap,rfl,h2⟩
 ·cases hy
 ·cases hy
  have := (h2 (by simp; exact List.length_pos_iff.2 hne)).1
  omega
theorem sl_cells {h : Heap} {v : V} {vs : List V} (hs : Sl h v vs) (hne : vs ≠ []) {x : Nat} (hx : rOb v = some x) : ∃ c,h.get x = some (.cells c) := by
 rcases hs with ⟨rfl,_⟩ | ⟨o,g,off,cap,rfl,h2⟩
 ·cases hx
 ·cases hx
  have := (h2 (List.length_pos_iff.2 hne)).2
  unfold rCs Heap.cells? at this
  cases hg : h.get x with
  | none => rw [hg] at this; cases this
  | some y =>
   rw [hg] at this
   cases y <;> first | exact ⟨_,rfl⟩ | cases this
theorem mut_put {h : Heap} {o mm x : Nat} {y : XObj} (hn : mm ≠ o) : Mut (h.put mm y) o x ↔ Mut h o x := by
 unfold Mut
 rw [Heap.get_put,if_neg (fun e => hn e.symm)]
theorem chk_mapput {b : Nat} {g : Heap} {o mm : Nat} {es : List (Int × List Int)} {last : Int} {ov : Bool} {tr : List Int} {kd : IntKind} {mes : List (Int × V)} {mins : Nat} (hc : ChkP b g o es last ov tr) (hmm : g.get mm = some (.map kd mes mins)) (hoff : ¬ Mut g o mm) (hlt : mm < g.next) (y : XObj) : ChkP b (g.put mm y) o es last ov tr := by
 obtain ⟨vs,mo,ces,ins,vv,tv,hm,hg⟩ := hc
 have ho : mm ≠ o := fun e => hoff (.inl e)
 have hget : ∀ x,x ≠ mm -> (g.put mm y).get x = g.get x := fun x hx => by rw [Heap.get_put,if_neg hx]
 rw [mut_iff hm.get] at hoff
 have hslo : ∀ {v : V} {xs : List Int},SlO .i32 g o v xs -> SlO .i32 (g.put mm y) o v xs := fun {v xs} hs => by
  by_cases hne : xs = []
  ·subst hne
   refine ⟨?_,fun q => absurd rfl q⟩
   rcases hs.1 with h1 | ⟨o',g',off,cap,h1,_⟩
   ·exact .inl h1
   ·exact .inr ⟨o',g',off,cap,h1,fun q => by simp at q⟩
  ·refine ⟨hs.1.stay (Nat.le_refl _) fun x hx _ => hget x ?_,fun _ x hx q => hs.2 hne x hx ((mut_put ho).1 q)⟩
   rintro rfl
   obtain ⟨c,e⟩ := sl_cells hs.1 (by simpa using hne) hx
   rw [hmm] at e
   cases e
 refine ⟨vs,mo,ces,ins,vv,tv,⟨(hget o (fun e => ho e.symm)).trans hm.get,hm.bo,hm.ho,hm.bm,hm.hm,hm.om,(hget mo fun e => hoff (.inr (.inl e.symm))).trans hm.map,hm.val.frame (Nat.le_refl _) fun x hx => hget x fun e => hoff (.inr (.inr (.inl (e ▸ hx)))),hm.trl.frame (Nat.le_refl _) fun x hx => hget x fun e => hoff (.inr (.inr (.inr (e ▸ hx)))),hm.voff,hm.toff,hm.two,fun id => (hm.held id).imp (fun q => q) ?_,hm.keys⟩,hg⟩
 rintro ⟨l,ho',lv,sv,h1,h2,h3⟩
 refine ⟨l,ho',lv,sv,h1,h2,⟨(hget ho' fun e => ?_).trans h3.get,h3.lt,fun q => h3.off ((mut_put ho).1 q),hslo h3.lits,hslo h3.set⟩⟩
 have := h3.get
 rw [e,hmm] at this
 cases this
theorem ChkP.no_hobj {b : Nat} {h : Heap} {o mm mins : Nat} {es : List (Int × List Int)} {last : Int} {ov : Bool} {tr : List Int} {kd : IntKind} {mes : List (Int × V)} (hc : ChkP b h o es last ov tr) (hmm : h.get mm = some (.map kd mes mins)) : ¬ HObj h o mm := fun q => by
 obtain ⟨vs,mo,ces,ins,vv,tv,hm,_⟩ := hc
 obtain ⟨_,_,_,_,_,_,e⟩ := hm.hobj q
 have := e.get
 rw [hmm] at this
 cases this
theorem chg_mapput {h g : Heap} {o mm : Nat} (c : Chg o h g) (hm : h.next <= mm) (ho : mm ≠ o) (n1 : ¬ Mut g o mm) (n2 : ¬ HObj g o mm) (y : XObj) : Chg o h (g.put mm y) :=
 ⟨⟨c.but.next,fun x hx q => by rw [Heap.get_put,if_neg (by omega)]; exact c.but.get x hx q⟩,fun x hx q => c.back x hx ((mut_put ho).1 q),fun w => by
  obtain ⟨w1,f1⟩ := c.foot w
  obtain ⟨w2,f2⟩ := foot_same (h' := g.put mm y) w1 (Nat.le_refl _) (fun x q => .inl ((mut_put ho).1 q)) (fun cs mo q1 q2 => ⟨cs,by rw [Heap.get_put,if_neg (fun e => ho e.symm)] at q1; exact q1,q2⟩)
   (fun mo cs q1 q2 => by
    rw [Heap.get_put,if_neg]
    rintro rfl
    exact n1 (.inr ⟨cs,q1,.inl q2⟩)) fun x q => by
    rw [Heap.get_put,if_neg]
    rintro rfl
    exact n2 q
  exact ⟨w2,fun x q => (f2 x q).elim (f1 x) fun q => .inr (Nat.le_trans c.but.next q)⟩⟩
theorem grows_map {o mo : Nat} {h h' : Heap} {cs cs' : List V} {kd kd' : IntKind} {ces ces' : List (Int × V)} {ins ins' : Nat} (g1 : h.get o = some (arr cs 1 false)) (e1 : cs[0]? = some (.map mo)) (g2 : h'.get o = some (arr cs' 1 false)) (e2 : cs'[0]? = some (.map mo)) (m1 : h.get mo = some (.map kd ces ins)) (m2 : h'.get mo = some (.map kd' ces' ins')) (hn : h.next <= h'.next) (hm : ∀ x,Mut h' o x -> Mut h o x)
  (hall : ∀ id ho,(id,V.ptr ho 0 0) ∈ ces' -> ((∃ id',(id',V.ptr ho 0 0) ∈ ces) /\ h'.get ho = h.get ho) \/ (h.next <= ho /\ ho < h'.next /\ ∀ hs v x,h'.get ho = some (arr hs 1 false) -> v ∈ hs -> lenS v ≠ 0 -> rOb v = some x -> h.next <= x)) : Grows o h h' := fun w => by
 have hob : ∀ ho,HObj h' o ho -> ∃ id,(id,V.ptr ho 0 0) ∈ ces' := by
  rintro ho ⟨cs2,mo2,kd2,ces2,ins2,id,q1,q2,q3,q4⟩
  rw [g2] at q1
  rw [<- arr_inj q1,e2] at q2
  cases q2
  rw [m2] at q3
  cases q3
  exact ⟨id,q4⟩
 have hold : ∀ ho,(∃ id',(id',V.ptr ho 0 0) ∈ ces) -> HObj h o ho := fun ho ⟨id',q⟩ => ⟨cs,mo,kd,ces,ins,id',g1,e1,m1,q⟩
 refine ⟨⟨fun cs2 mo2 q1 q2 => ?_,fun ho q => ?_⟩,?_⟩
 ·rw [g2] at q1
  rw [<- arr_inj q1,e2] at q2
  cases q2
  exact Nat.lt_of_lt_of_le (w.1 cs mo g1 e1) hn
 ·obtain ⟨id,q⟩ := hob ho q
  rcases hall id ho q with ⟨q1,_⟩ | ⟨_,q2,_⟩
  ·exact Nat.lt_of_lt_of_le (w.2 ho (hold ho q1)) hn
  ·exact q2
 ·rintro x (q | ⟨ho,q,q2⟩)
  ·exact .inl (.inl (hm x q))
  ·obtain ⟨id,q⟩ := hob ho q
   rcases hall id ho q with ⟨q1,q3⟩ | ⟨q1,_,q3⟩
   ·refine .inl (.inr ⟨ho,hold ho q1,q2.imp (fun q => q) ?_⟩)
    rintro ⟨hs,v,e,r⟩
    exact ⟨hs,v,by rw [<- q3]; exact e,r⟩
   ·rcases q2 with rfl | ⟨hs,v,r1,r2,r3,r4⟩
    ·exact .inr q1
    ·exact .inr (q3 hs v x r1 r2 r3 r4)
theorem headX_ok {h0 h : Heap} {c : V} {xs : List Int} (hc : Sw h0 c (xs.map (.int .i64))) (x0 : Ext h0 h) (hlen : xs.length <= 9223372036854775806) (hx : ∀ x ∈ xs,x ≠ 0) : EvCall xprog H0 40 [c] h fun v h' => (∃ a b,v = .tup [a,b] /\ Sw h0 a ((xs.take (headN xs)).map (.int .i64)) /\ Sw h0 b ((xs.drop (headN xs)).map (.int .i64))) /\ h' = h := by
 refine s_call (fn := xf40) rfl (free _ rfl ..) ?_
 have hl := hc.sl.len
 have hr := hc.sl.row
 have hn := headN_le xs
 simp only [List.length_map] at hl
 have hi := IndexFunc_ok (hc.ext x0).sl hlen hx
 by_cases hh : headN xs < xs.length
 ·rw [if_pos hh] at hi
  simp -implicitDefEqProofs only [xf40,argsFrom_cons,argsFrom_nil]
  repeat' ((first | refine Z0 rfl ?_ | refine Z1 rfl ?_ | refine Z2 ?_ | refine Z3 ?_ | refine Z4 ?_ | refine Z5 ?_ | refine Z6 ?_ | refine Z7 ?_ | refine Z8 ?_ | refine Z9 (fun hif => ?_) (fun hif => ?_) | refine Za (fun hif => ?_) (fun hif => ?_) | refine Zb (fun hif => ?_) (fun hif => ?_) | (refine Zc ?_ ?_; omega) | (refine Zd ?_ ?_; omega) | (refine Ze ?_ ?_; omega) | (refine (eCi hi).2 ?_) | ((refine x_sw_hiX hc (by omega) (by simp; omega) ?_; intro ra qa)) | ((refine x_sw_loX hc (by omega) (by simp; omega) ?_; intro rb qb))) <;>
   (try simp -implicitDefEqProofs (disch := first | assumption | omega) only [sx,sb,sd,se,xwS,xwO,xwI,oEv,xres,o1f,Nat.reduceAdd,Nat.reduceEqDiff,Nat.reduceSub, ↓reduceIte,reduceCtorEq,Int.toNat_natCast, *]))
  ·rw [Int.toNat_natCast, <- List.map_take] at qa
   rw [Int.toNat_natCast, <- List.map_drop] at qb
   exact ⟨ra,rb,rfl,qa,qb⟩
 ·rw [if_neg hh] at hi
  have he : headN xs = xs.length := by omega
  simp -implicitDefEqProofs only [xf40,argsFrom_cons,argsFrom_nil]
  repeat' ((first | refine Z0 rfl ?_ | refine Z1 rfl ?_ | refine Z2 ?_ | refine Z3 ?_ | refine Z4 ?_ | refine Z5 ?_ | refine Z6 ?_ | refine Z7 ?_ | refine Z8 ?_ | refine Z9 (fun hif => ?_) (fun hif => ?_) | refine Za (fun hif => ?_) (fun hif => ?_) | refine Zb (fun hif => ?_) (fun hif => ?_) | (refine Zc ?_ ?_; omega) | (refine Zd ?_ ?_; omega) | (refine Ze ?_ ?_; omega) | (refine (eCi hi).2 ?_) | ((refine x_sw_hiX hc (by omega) (by simp) ?_; intro ra qa)) | ((refine x_sw_loX hc (by omega) (by simp) ?_; intro rb qb))) <;>
   (try simp -implicitDefEqProofs (disch := first | assumption | omega) only [sx,sb,sd,se,xwS,xwO,xwI,oEv,xres,o1f,Nat.reduceAdd,Nat.reduceEqDiff,Nat.reduceSub, ↓reduceIte,reduceCtorEq,Int.toNat_natCast, *]))
  ·rw [Int.toNat_natCast, <- List.map_take] at qa
   rw [Int.toNat_natCast, <- List.map_drop] at qb
   exact ⟨ra,rb,rfl,qa,qb⟩
open Go.Xr Go.Chk
theorem inG {i : Nat} (h : i ∈ slotsG) : i = 15 \/ i = 16 \/ (74 <= i /\ i <= 91) := by
 simp only [slotsG,List.mem_cons,List.not_mem_nil,or_false] at h
 omega
theorem w06_g {t : Tr V} {d : List XDef} {h : Heap} {oi : Nat} (h73 : sO t 73 = .iter oi) : W06 mG none t d h = [(.ret,(anyAll t slotsG).set 6 (.int .i64 61),d,h.put oi (.dead true)),(.exit 2,anyAll t slotsG,d,h.put oi (.dead true))] := by
 unfold W06
 have : rd t mG.it = .iter oi := h73
 rw [this]
 rfl
set_option maxHeartbeats 16000000 in
theorem groups_ok {b : Nat} {h0 h : Heap} {o : Nat} {es : List (Int × List Int)} {last : Int} {ov : Bool} {tr hints : List Int} {hv : V} {p : Int} (hc : ChkP b h o es last ov tr) (hr : Rise es last) (hf : ∀ e ∈ es,Fine e.2 /\ e.2.length <= 1000000) (x0 : Ext h0 h) (hb : h0.next <= b) (hh : Sw h0 hv (hints.map (.int .i64))) (hz : HFine hints) (hneg : ∀ x r,hints = x :: r -> x < 0) (hp : -1048576 <= p /\ p <= 1048576) (htl : tr.length + hints.length <= 1000000) :
  EvCall xprog H0 42 [.ptr o 0 0,.int .i32 p,hv] h fun v h' => v = .int .i64 (groups es p tr hints 0 []) /\ ChkP b h' o es last ov tr /\ Chg o h h' := by
 refine s_call (fn := xf42) rfl (free _ rfl ..) ?_
 have hlt := hc.lt.1
 have hmut := hc.lt.2
 have e1 := Ext.push h (.map .i64 [] 0)
 have hmm : (h.push (.map .i64 [] 0)).get h.next = some (.map .i64 [] 0) := by rw [Heap.get_push,if_pos rfl]
 have hml : h.next < (h.push (.map .i64 [] 0)).next := Nat.lt_succ_self _
 have wp : IntKind.i32.wrap (-p) = -p := wneg hp.1 hp.2
 have c1 : Chg o h _ := Chg.ext e1 hlt
 have k1 := hc.ext e1
 have hoff : ¬ Mut (h.push (.map .i64 [] 0)) o h.next := fun q => by have := hmut _ ((Mut.ext e1 hlt).1 q); omega
 generalize hH : h.push (.map .i64 [] 0) = H at *
 simp -implicitDefEqProofs only [xf42,argsFrom_cons,argsFrom_nil]
 repeat' ((first | refine Z0 rfl ?_ | refine Z1 rfl ?_ | refine Z2 ?_ | refine Z3 ?_ | refine Z4 ?_ | refine Z5 ?_ | refine Z6 ?_ | refine Z7 ?_ | refine Z8 ?_ | refine Z9 (fun hif => ?_) (fun hif => ?_) | refine Za (fun hif => ?_) (fun hif => ?_) | refine Zb (fun hif => ?_) (fun hif => ?_) | (refine Zc ?_ ?_; omega) | (refine Zd ?_ ?_; omega) | (refine Ze ?_ ?_; omega)) <;>
  (try simp -implicitDefEqProofs (disch := first | assumption | omega) only [sx,sb,sd,se,xwS,xwO,xwI,oEv,xres,o1f,Nat.reduceAdd,Nat.reduceEqDiff,Nat.reduceSub, ↓reduceIte,reduceCtorEq, *]))
 refine s_while (fun n t d g => ∃ (cur : List Int) (cv : V) (la : Int) (met : List Int) (mes : List (Int × V)) (mins : Nat),cur.length = n /\ sO t 2 = cv /\ sO t 0 = .ptr o 0 0 /\ sO t 1 = .int .i32 p /\ sO t 7 = .map h.next /\ sO t 8 = .int .i64 la /\ d = [] /\ Sw h0 cv (cur.map (.int .i64)) /\ Ext h0 g /\ ChkP b g o es last ov tr /\ Chg o h g /\ g.get h.next = some (.map .i64 mes mins) /\ h.next < g.next /\ ¬ Mut g o h.next /\ (∀ k,hasKey k mes = if k ∈ met then some (.bool true) else none) /\ HFine cur /\ (∀ x r,cur = x :: r -> x < 0) /\ cur.length <= hints.length /\ groups es p tr cur la met = groups es p tr hints 0 [] /\ (∀ i ∈ slotsG,vFits (sO t i) .any = true)) (fun _ _ _ => frC ..) hints.length ⟨hints,hv,0,[],[],0,rfl,by simp [sSe],by simp [sSe],by simp [sSe],by simp [sSe],by simp [sSe],rfl,hh,x0.trans e1,k1,c1,hmm,hml,hoff,fun k => rfl,hz,hneg,Nat.le_refl _,rfl,by simp [slotsG,sSe,vFits,V.undef]⟩ ?_
 clear e1 hmm hml c1 k1 hoff hH hh hneg H
 rintro n t d g ⟨cur,cv,la,met,mes,mins,b1,a1,a2,a3,a4,a5,rfl,hsw,xg,k1,c1,hmm,hml,hoff,hmet,hzc,hneg,hcl,hgr,hsl⟩
 have cl := hsw.sl.len
 have cr := hsw.sl.row
 simp only [List.length_map] at cl
 rcases cur with _ | ⟨hd,rest⟩
 ·have hn0 : n = 0 := b1.symm
  subst hn0
  clear b1
  have kk := k1
  obtain ⟨vs,mo,ces,ins,vv,tv,hm,hg⟩ := k1
  have r0 := rCl (off := 0) hm.get rfl
  have gm := hm.map
  have hgr2 : groups es p tr hints 0 [] = if miss es p met = true then 61 else 0 := by
   rw [<- hgr,groups]
   rfl
  have xp : ∀ (y : XObj),Ext g ((g.push (.miter (some mo) ins [] none)).put g.next y) := fun y => (Ext.push _ _).put _ (Nat.le_refl _)
  have cp : ∀ (y : XObj),Chg o h ((g.push (.miter (some mo) ins [] none)).put g.next y) := fun y => c1.trans (Chg.ext (xp y) hm.ho)
  clear hgr hneg hzc hcl hsw
  repeat' ((first | refine Z0 rfl ?_ | refine Z1 rfl ?_ | refine Z2 ?_ | refine Z3 ?_ | refine Z4 ?_ | refine Z5 ?_ | refine Z6 ?_ | refine Z7 ?_ | refine Z8 ?_ | refine Z9 (fun hif => ?_) (fun hif => ?_) | refine Za (fun hif => ?_) (fun hif => ?_) | refine Zb (fun hif => ?_) (fun hif => ?_) | (refine Zc ?_ ?_; omega) | (refine Zd ?_ ?_; omega) | (refine Ze ?_ ?_; omega)) <;>
   (try simp -implicitDefEqProofs (disch := first | assumption | omega) only [sx,sb,sd,se,xwS,xwO,xwI,oEv,xres,o1f,Nat.reduceAdd,Nat.reduceEqDiff,Nat.reduceSub, ↓reduceIte,reduceCtorEq,kindEq,List.length_nil, *]))
  all_goals first
   | (exfalso; omega)
   | skip
  have hsl2 : ∀ (t' : Tr V),(∀ i,i ≠ 18 -> i ≠ 19 -> i ≠ 20 -> i ≠ 69 -> i ≠ 70 -> i ≠ 71 -> i ≠ 72 -> i ≠ 73 -> sO t' i = sO t i) -> ∀ i ∈ slotsG,vFits (sO t' i) .any = true := fun t' q i hi => by
   have := inG hi
   rw [q i (by omega) (by omega) (by omega) (by omega) (by omega) (by omega) (by omega) (by omega)]
   exact hsl i hi
  cases hms : miss es p met with
  | true =>
   rw [hms] at hgr2
   refine s_pick (m := mG) (W := W06) .ret _ [] _ (pick_code ..) rfl (by rw [w06_g (oi := g.next) (by simp [sSe])]; exact List.mem_cons_self) (fun q hq e => by rw [w06_g (oi := g.next) (by simp [sSe])] at hq; rcases List.mem_cons.1 hq with rfl | hq; rfl; rw [List.mem_singleton] at hq; subst hq; cases e) (grange hm hr hf hmm hml hmet hp (by simp [sSe]) (by simp [sSe,a4]) (by simp [sSe,a3]) (hsl2 _ fun i q1 q2 q3 q4 q5 q6 q7 q8 => by simp [sSe,q1,q2,q3,q4,q5,q6,q7,q8]) (.inl ⟨hms,rfl,rfl⟩)) ?_
   simp only [outOf_ret,andThen_ret,xfin_ret,xres,slotOf_same,o1f]
   exact ⟨by simp,kk.ext (xp _),cp _⟩
  | false =>
   rw [hms] at hgr2
   refine s_pick (m := mG) (W := W06) (.exit 2) _ [] _ (pick_code ..) rfl (by rw [w06_g (oi := g.next) (by simp [sSe])]; exact List.mem_cons_of_mem _ List.mem_cons_self) (fun q hq e => by rw [w06_g (oi := g.next) (by simp [sSe])] at hq; rcases List.mem_cons.1 hq with rfl | hq; cases e; rw [List.mem_singleton] at hq; exact hq) (grange hm hr hf hmm hml hmet hp (by simp [sSe]) (by simp [sSe,a4]) (by simp [sSe,a3]) (hsl2 _ fun i q1 q2 q3 q4 q5 q6 q7 q8 => by simp [sSe,q1,q2,q3,q4,q5,q6,q7,q8]) (.inr ⟨hms,rfl,rfl⟩)) ?_
   have k5 := kk.ext (xp (.dead true))
   have c5 := cp (.dead true)
   simp only [outOf_exit,if_true,andThen_normal]
   generalize anyAll _ slotsG = T at *
   repeat' ((first | refine Z0 rfl ?_ | refine Z1 rfl ?_ | refine Z2 ?_ | refine Z3 ?_ | refine Z4 ?_ | refine Z5 ?_ | refine Z6 ?_ | refine Z7 ?_ | refine Z8 ?_ | refine Z9 (fun hif => ?_) (fun hif => ?_) | refine Za (fun hif => ?_) (fun hif => ?_) | refine Zb (fun hif => ?_) (fun hif => ?_) | (refine Zc ?_ ?_; omega) | (refine Zd ?_ ?_; omega) | (refine Ze ?_ ?_; omega)) <;>
    (try simp -implicitDefEqProofs (disch := first | assumption | omega) only [sx,sb,sd,se,xwS,xwO,xwI,oEv,xres,o1f,Nat.reduceAdd,Nat.reduceEqDiff,Nat.reduceSub, ↓reduceIte,reduceCtorEq, *]))
 have hd0 := hneg hd rest rfl
 have hzd := hzc hd List.mem_cons_self
 have rx : rCs g (objS cv) (genS cv) (offS cv) 1 = some [.int .i64 hd] := by
  have := (hsw.sl.ext xg).at (i := 0) (x := .int .i64 hd) rfl
  rwa [Nat.add_zero] at this
 have wid : IntKind.i64.wrap (-hd) = -hd := wrap_i64 (by omega) (by omega)
 have hhd : ∀ {rv : V},Sw h0 rv (((hd :: rest).map (.int .i64)).drop 1) -> EvCall xprog H0 40 [rv] g fun v h' => (∃ a b,v = .tup [a,b] /\ Sw h0 a ((rest.take (headN rest)).map (.int .i64)) /\ Sw h0 b ((rest.drop (headN rest)).map (.int .i64))) /\ h' = g := fun hs => headX_ok hs xg (by simp at hcl; omega) fun x hx => (hzc x (List.mem_cons_of_mem _ hx)).1
 have kk := k1
 obtain ⟨vs,mo,ces,ins,vv,tv,hm,hg⟩ := k1
 have r0 := rCl (off := 0) hm.get rfl
 have gm := hm.map
 rw [groups] at hgr
 simp only [List.length_cons] at cl
 rcases hm.held (-hd) with ⟨f1,f2⟩ | ⟨l,ho,lv,sv,f1,f2,hh⟩
 ·rw [f1] at hgr
  simp only at hgr
  repeat' ((first | refine Z0 rfl ?_ | refine Z1 rfl ?_ | refine Z2 ?_ | refine Z3 ?_ | refine Z4 ?_ | refine Z5 ?_ | refine Z6 ?_ | refine Z7 ?_ | refine Z8 ?_ | refine Z9 (fun hif => ?_) (fun hif => ?_) | refine Za (fun hif => ?_) (fun hif => ?_) | refine Zb (fun hif => ?_) (fun hif => ?_) | (refine Zc ?_ ?_; omega) | (refine Zd ?_ ?_; omega) | (refine Ze ?_ ?_; omega) | ((refine x_sw_loX hsw (by omega) (by simp; omega) ?_; intro r1 q1)) | ((refine eAc (hhd q1) ?_; rintro _ g ⟨⟨av,bv,rfl,q2,q3⟩,rfl⟩))) <;>
   (try simp -implicitDefEqProofs (disch := first | assumption | omega) only [sx,sb,sd,se,xwS,xwO,xwI,oEv,xres,o1f,Nat.reduceAdd,Nat.reduceEqDiff,Nat.reduceSub, ↓reduceIte,reduceCtorEq,sg,kindEq,tellV,Int.toNat_zero,Nat.add_zero,Nat.zero_add, *]))
  all_goals first
   | (exfalso; omega)
   | skip
 ·rw [f1] at hgr
  simp only at hgr
  have r1 := rCl (off := 1) hh.get rfl
  have hfl := hf (-hd,l) (find_some f1)
  simp only at hfl
  have hcon : ∀ z,EvCall xprog H0 60 [sv,.int .i32 z] g fun v h' => v = .bool (decide (z ∈ l)) /\ h' = g := fun z => (Contains_ok hh.set.1 (by have := lenNrm l; omega) z).mono fun v h' q => by rw [q.1,q.2]; exact ⟨by simp only [nrm_alike l _],rfl⟩
  have hgrp : ∀ {av : V},Sw h0 av ((rest.take (headN rest)).map (.int .i64)) -> EvCall xprog H0 61 [.ptr o 0 0,.ptr ho 0 0,.int .i32 p,av] g fun v h' => v = .int .i64 (groupOf es l p tr (rest.take (headN rest))) /\ ChkP b h' o es last ov tr /\ Chg o g h' := fun hs => group_ok kk hf (slo_of kk xg hb hs.sl) hh hfl.1 hfl.2 hp (by simp at hcl ⊢; omega)
  by_cases hbad : -p ∉ l \/ -hd <= la
  ·rw [if_pos hbad] at hgr
   repeat' ((first | refine Z0 rfl ?_ | refine Z1 rfl ?_ | refine Z2 ?_ | refine Z3 ?_ | refine Z4 ?_ | refine Z5 ?_ | refine Z6 ?_ | refine Z7 ?_ | refine Z8 ?_ | refine Z9 (fun hif => ?_) (fun hif => ?_) | refine Za (fun hif => ?_) (fun hif => ?_) | refine Zb (fun hif => ?_) (fun hif => ?_) | (refine Zc ?_ ?_; omega) | (refine Zd ?_ ?_; omega) | (refine Ze ?_ ?_; omega) | ((refine x_sw_loX hsw (by omega) (by simp; omega) ?_; intro r1 q1)) | ((refine eAc (hhd q1) ?_; rintro _ g ⟨⟨av,bv,rfl,q2,q3⟩,rfl⟩)) | (refine (eCi (hcon _)).2 ?_)) <;>
    (try simp -implicitDefEqProofs (disch := first | assumption | omega) only [sx,sb,sd,se,xwS,xwO,xwI,oEv,xres,o1f,Nat.reduceAdd,Nat.reduceEqDiff,Nat.reduceSub, ↓reduceIte,reduceCtorEq,sg,kindEq,tellV,Int.toNat_zero,Nat.add_zero,Nat.zero_add, *]))
   all_goals first
    | (exfalso; omega)
    | (exfalso; exact hbad.elim (fun q => q (by simpa using ‹(!decide (-p ∈ l)) = false›)) (by assumption))
  ·rw [if_neg hbad] at hgr
   have hbp : -p ∈ l := Classical.byContradiction fun q => hbad (.inl q)
   have hbl : ¬ -hd <= la := fun q => hbad (.inr q)
   clear hbad
   repeat' ((first | refine Z0 rfl ?_ | refine Z1 rfl ?_ | refine Z2 ?_ | refine Z3 ?_ | refine Z4 ?_ | refine Z5 ?_ | refine Z6 ?_ | refine Z7 ?_ | refine Z8 ?_ | refine Z9 (fun hif => ?_) (fun hif => ?_) | refine Za (fun hif => ?_) (fun hif => ?_) | refine Zb (fun hif => ?_) (fun hif => ?_) | (refine Zc ?_ ?_; omega) | (refine Zd ?_ ?_; omega) | (refine Ze ?_ ?_; omega) | ((refine x_sw_loX hsw (by omega) (by simp; omega) ?_; intro r1 q1)) | ((refine eAc (hhd q1) ?_; rintro _ g ⟨⟨av,bv,rfl,q2,q3⟩,rfl⟩)) | (refine (eCi (hcon _)).2 ?_) | ((refine eAc (hgrp q2) ?_; rintro _ g2 ⟨rfl,m1,m2⟩; have gm2 := (m2.but.get _ hml hoff).trans hmm))) <;>
    (try simp -implicitDefEqProofs (disch := first | assumption | omega) only [sx,sb,sd,se,xwS,xwO,xwI,oEv,xres,o1f,Nat.reduceAdd,Nat.reduceEqDiff,Nat.reduceSub, ↓reduceIte,reduceCtorEq,sg,kindEq,tellV,V.whole,Int.toNat_zero,Nat.add_zero,Nat.zero_add, *]))
   all_goals first
    | (exfalso; omega)
    | skip
   ·have hz0 : ¬ groupOf es l p tr (rest.take (headN rest)) = 0 := by simpa using hif
    rw [if_neg hz0] at hgr
    first
     | exact ⟨by rw [hgr],m1,c1.trans m2⟩
     | exact ⟨m1,c1.trans m2⟩
     | exact ⟨by rw [hgr],c1.trans m2⟩
   ·have hz0 : groupOf es l p tr (rest.take (headN rest)) = 0 := by simpa using hif
    rw [if_pos hz0] at hgr
    have hne : h.next ≠ o := by omega
    have hl2 : h.next < g2.next := Nat.lt_of_lt_of_le hml m2.but.next
    have hoff2 : ¬ Mut g2 o h.next := fun q => hoff (m2.back _ hml q)
    have xg2 := ext_chg kk xg hb m2
    have hdl := headN_le rest
    refine ⟨(rest.drop (headN rest)).length,by simp at b1 ⊢; omega,rest.drop (headN rest),bv, -hd, -hd :: met,_,_,rfl,by simp [sSe],by simp [sSe,a2],by simp [sSe,a3],by simp [sSe,a4],by simp [sSe],rfl,q3,⟨xg2.next,fun y hy => ?_⟩,chk_mapput m1 gm2 hoff2 hl2 _,chg_mapput (c1.trans m2) (Nat.le_refl _) hne hoff2 (m1.no_hobj ((m2.but.get _ hml hoff).trans hmm)) _,by rw [Heap.get_put,if_pos rfl],hl2,fun q => hoff2 ((mut_put hne).1 q),fun k => ?_,fun z hzm => hzc z (List.mem_cons_of_mem _ (List.mem_of_mem_drop hzm)),HFine.drop fun z hzm => hzc z (List.mem_cons_of_mem _ hzm),by simp at hcl ⊢; omega,hgr,fun i hi => ?_⟩
    ·have := x0.next
     rw [Heap.get_put,if_neg (by omega)]
     exact xg2.get y hy
    ·rw [hasKey_addKey]
     by_cases hk : k = -hd
     ·rw [if_pos hk,if_pos (by rw [hk]; exact List.mem_cons_self)]
     ·rw [if_neg hk,hmet k]
      by_cases hkm : k ∈ met
      ·rw [if_pos hkm,if_pos (List.mem_cons_of_mem _ hkm)]
      ·rw [if_neg hkm,if_neg (by rw [List.mem_cons]; exact fun q => q.elim hk hkm)]
    ·have hi2 := inG hi
     have hsi := hsl i hi
     clear hsl
     simp only [sSe]
     repeat rw [if_neg (by omega)]
     exact hsi
open Go.Xr Go.Chk
theorem Clip2_ok {b : Nat} {h : Heap} {v : V} {ys : List V} (hv : OwnP b h v ys) : EvCall xprog H0 55 [v] h fun v' h' => Sl h v' ys /\ (ys ≠ [] -> ∀ x,rOb v' = some x -> b <= x) /\ h' = h := by
 refine s_call (fn := xf55) rfl (free _ rfl ..) ?_
 rcases hv with ⟨rfl,rfl | ⟨o,g,off,rfl⟩⟩ | ⟨o,g,r,cs,hb,hlt,rfl,hg,ht,hle⟩
 ·simp -implicitDefEqProofs only [xf55,argsFrom_cons,argsFrom_nil]
  repeat' ((first | refine Z0 rfl ?_ | refine Z1 rfl ?_ | refine Z2 ?_ | refine Z3 ?_ | refine Z4 ?_ | refine Z5 ?_ | refine Z6 ?_ | refine Z7 ?_ | refine Z8 ?_ | refine Z9 (fun hif => ?_) (fun hif => ?_) | refine Za (fun hif => ?_) (fun hif => ?_) | refine Zb (fun hif => ?_) (fun hif => ?_) | (refine Zc ?_ ?_; omega) | (refine Zd ?_ ?_; omega) | (refine Ze ?_ ?_; omega) | (refine x_slc_nil ?_)) <;>
   (try simp -implicitDefEqProofs (disch := first | assumption | omega) only [sx,sb,sd,se,xwS,xwO,xwI,oEv,xres,o1f,Nat.reduceAdd,Nat.reduceEqDiff,Nat.reduceSub, ↓reduceIte,reduceCtorEq,rowS,lenS,List.length_nil, *]))
  exact ⟨.inl ⟨rfl,rfl⟩,fun q => by first | exact q.elim | exact absurd rfl q⟩
 ·simp -implicitDefEqProofs only [xf55,argsFrom_cons,argsFrom_nil]
  repeat' ((first | refine Z0 rfl ?_ | refine Z1 rfl ?_ | refine Z2 ?_ | refine Z3 ?_ | refine Z4 ?_ | refine Z5 ?_ | refine Z6 ?_ | refine Z7 ?_ | refine Z8 ?_ | refine Z9 (fun hif => ?_) (fun hif => ?_) | refine Za (fun hif => ?_) (fun hif => ?_) | refine Zb (fun hif => ?_) (fun hif => ?_) | (refine Zc ?_ ?_; omega) | (refine Zd ?_ ?_; omega) | (refine Ze ?_ ?_; omega) | (refine x_slc_empty ?_)) <;>
   (try simp -implicitDefEqProofs (disch := first | assumption | omega) only [sx,sb,sd,se,xwS,xwO,xwI,oEv,xres,o1f,Nat.reduceAdd,Nat.reduceEqDiff,Nat.reduceSub, ↓reduceIte,reduceCtorEq,rowS,lenS,List.length_nil, *]))
  exact ⟨.inr ⟨_,_,_,_,rfl,fun q => by cases q⟩,fun q => by first | exact q.elim | exact absurd rfl q⟩
 ·simp -implicitDefEqProofs only [xf55,argsFrom_cons,argsFrom_nil]
  repeat' ((first | refine Z0 rfl ?_ | refine Z1 rfl ?_ | refine Z2 ?_ | refine Z3 ?_ | refine Z4 ?_ | refine Z5 ?_ | refine Z6 ?_ | refine Z7 ?_ | refine Z8 ?_ | refine Z9 (fun hif => ?_) (fun hif => ?_) | refine Za (fun hif => ?_) (fun hif => ?_) | refine Zb (fun hif => ?_) (fun hif => ?_) | (refine Zc ?_ ?_; omega) | (refine Zd ?_ ?_; omega) | (refine Ze ?_ ?_; omega) | (refine x_slc_clip ?_)) <;>
   (try simp -implicitDefEqProofs (disch := first | assumption | omega) only [sx,sb,sd,se,xwS,xwO,xwI,oEv,xres,o1f,Nat.reduceAdd,Nat.reduceEqDiff,Nat.reduceSub, ↓reduceIte,reduceCtorEq,rowS,lenS, *]))
  exact ⟨.inr ⟨o,g,0,_,rfl,fun _ => ⟨hlt,by rw [readCells_grown hg (by omega),List.drop_zero,ht]⟩⟩,fun _ x hx => by cases hx; exact hb⟩
set_option maxHeartbeats 4000000 in
theorem Normal2_ok {h : Heap} {c : V} {xs : List Int} (hc : Sl h c (xs.map (.int .i32))) (hx : ∀ x ∈ xs,I32ok x) (hl : xs.length <= 1000000000) :
  EvCall xprog H0 34 [c] h fun v h' => (∃ w,v = .tup [w,.bool (bothN (nrm xs) (nrm xs).length)] /\ Sl h' w ((nrm xs).map (.int .i32)) /\ ((nrm xs).map (V.int .i32) ≠ [] -> ∀ x,rOb w = some x -> h.next <= x)) /\ Ext h h' := by
 refine s_call (fn := xf34) rfl (free _ rfl ..) ?_
 have hsl : (sortLits xs).length = xs.length := (sortLits_perm xs).length_eq
 have hcl := Clone_ok hc (fun x hx => by obtain ⟨n,_,rfl⟩ := List.mem_map.1 hx; rfl) (by simp; omega)
 have hso : ∀ {v : V} {h1 : Heap},Own h.next h1 v (xs.map (.int .i32)) -> EvCall xprog H0 52 [v,.func 53 [] []] h1 fun _ h' => Own h.next h' v ((sortLits xs).map (.int .i32)) /\ But (fun o => h.next <= o) h1 h' := fun hv => SortFunc_ok hv hx hl
 have hco : ∀ {v : V} {h1 : Heap},Own h.next h1 v ((sortLits xs).map (.int .i32)) -> EvCall xprog H0 54 [v] h1 fun v' h' => OwnP h.next h' v' ((nrm xs).map (.int .i32)) /\ But (fun o => h.next <= o) h1 h' := fun hv => Compact_ok hv (by omega)
 simp -implicitDefEqProofs only [xf34,argsFrom_cons,argsFrom_nil]
 repeat' ((first | refine Z0 rfl ?_ | refine Z1 rfl ?_ | refine Z2 ?_ | refine Z3 ?_ | refine Z4 ?_ | refine Z5 ?_ | refine Z6 ?_ | refine Z7 ?_ | refine Z8 ?_ | refine Z9 (fun hif => ?_) (fun hif => ?_) | refine Za (fun hif => ?_) (fun hif => ?_) | refine Zb (fun hif => ?_) (fun hif => ?_) | (refine Zc ?_ ?_; omega) | (refine Zd ?_ ?_; omega) | (refine Ze ?_ ?_; omega) | ((refine eAc hcl ?_; rintro v1 h1 ⟨o1,x1⟩)) | ((refine eAc (hso (by assumption)) ?_; rintro _ h2 ⟨o2,x2⟩)) | ((refine eAc (hco (by assumption)) ?_; rintro v3 h3 ⟨o3,x3⟩; have hr3 := o3.row; have hl3 := o3.len))) <;>
  (try simp -implicitDefEqProofs (disch := first | assumption | omega) only [sx,sb,sd,se,xwS,xwO,xwI,oEv,xres,o1f,Nat.reduceAdd,Nat.reduceEqDiff,Nat.reduceSub, ↓reduceIte,reduceCtorEq,wrap_i64, *]))
 have hym : ∀ y ∈ nrm xs,I32ok y := fun y hy => hx y (nrm_mem hy)
 have hyl : (nrm xs).length <= 1000000000 := Nat.le_trans (cpt_len _ _) (by omega)
 generalize hys : nrm xs = ys at *
 simp only [List.length_map] at hl3 ⊢
 have hsl3 := o3.sl
 have x23 : Ext h h3 := ext_but x1 (x2.trans x3)
 refine s_while (fun n t d h' => ∃ i : Nat,i + n = ys.length /\ sO t 15 = .int .i64 i /\ sO t 14 = .int .i64 ys.length /\ sO t 4 = v3 /\ sO t 5 = .bool (bothN ys i) /\ d = [] /\ h' = h3) (fun _ _ _ => frC ..) ys.length ⟨0,by omega,by simp [sSe],by simp [sSe],by simp [sSe],by simp [sSe,bothN],rfl,rfl⟩ ?_
 rintro n t d h' ⟨i,a1,a2,a3,a4,a5,rfl,rfl⟩
 have rx : i < ys.length -> rCs h' (objS v3) (genS v3) (offS v3 + i) 1 = some [.int .i32 (ys.getD i 0)] := fun hi => hsl3.at (by simp [hi])
 have rx2 : i < ys.length -> rCs h' (objS v3) (genS v3) (offS v3 + (i - 1)) 1 = some [.int .i32 (ys.getD (i - 1) 0)] := fun hi => hsl3.at (by simp [show i - 1 < ys.length by omega])
 have et : ((i : Int) - 1).toNat = i - 1 := by omega
 clear hc hcl hso hco o1 o2 x1 x2 x3 hsl3
 cases hbb : bothN ys i
 ·rw [hbb] at a5
  repeat' ((first | refine Z0 rfl ?_ | refine Z1 rfl ?_ | refine Z2 ?_ | refine Z3 ?_ | refine Z4 ?_ | refine Z5 ?_ | refine Z6 ?_ | refine Z7 ?_ | refine Z8 ?_ | refine Z9 (fun hif => ?_) (fun hif => ?_) | refine Za (fun hif => ?_) (fun hif => ?_) | refine Zb (fun hif => ?_) (fun hif => ?_) | (refine Zc ?_ ?_; omega) | (refine Zd ?_ ?_; omega) | (refine Ze ?_ ?_; omega) | ((refine eAc (Clip2_ok o3) ?_; rintro v4 h4 ⟨o4,o5,rfl⟩))) <;>
   (try simp -implicitDefEqProofs (disch := first | assumption | omega) only [sx,sb,sd,se,xwS,xwO,xwI,oEv,xres,o1f,Nat.reduceAdd,Nat.reduceEqDiff,Nat.reduceSub, ↓reduceIte,reduceCtorEq,wrap_i64,Nat.zero_add,Int.toNat_natCast,et, *]))
  ·refine ⟨n - 1,by omega,i + 1,by omega,by simp,?_⟩
   rw [bothN_succ,hbb,Bool.false_or]
   have hi : i < ys.length := by omega
   have g1 : ys.getD i 0 = ys[i] := by simp [hi]
   have g2 : ys.getD (i - 1) 0 = ys[i - 1]'(by omega) := by simp [show i - 1 < ys.length by omega]
   have k1 := hym _ (List.getElem_mem hi)
   have k2 := hym _ (List.getElem_mem (show i - 1 < ys.length by omega))
   refine congrArg V.bool ?_
   unfold bothAt
   apply decide_eq_decide.2
   rw [<- g1] at k1
   rw [<- g2] at k2
   rw [wrap_neg k2 hif k1.2]
   constructor
   ·intro e; exact ⟨by omega,hif,e⟩
   ·intro e; exact e.2.2
  ·refine ⟨n - 1,by omega,i + 1,by omega,by simp,?_⟩
   rw [bothN_succ,hbb,Bool.false_or]
   exact congrArg V.bool (decide_eq_false fun q => hif q.2.1).symm
  ·refine ⟨n - 1,by omega,i + 1,by omega,by simp,?_⟩
   rw [bothN_succ,hbb,Bool.false_or]
   exact congrArg V.bool (decide_eq_false fun q => hif (by omega)).symm
  ·have hi : i = ys.length := by omega
   rw [hi] at hbb
   exact ⟨v4,by rw [hbb],o4,o5⟩
 ·rw [hbb] at a5
  repeat' ((first | refine Z0 rfl ?_ | refine Z1 rfl ?_ | refine Z2 ?_ | refine Z3 ?_ | refine Z4 ?_ | refine Z5 ?_ | refine Z6 ?_ | refine Z7 ?_ | refine Z8 ?_ | refine Z9 (fun hif => ?_) (fun hif => ?_) | refine Za (fun hif => ?_) (fun hif => ?_) | refine Zb (fun hif => ?_) (fun hif => ?_) | (refine Zc ?_ ?_; omega) | (refine Zd ?_ ?_; omega) | (refine Ze ?_ ?_; omega) | ((refine eAc (Clip2_ok o3) ?_; rintro v4 h4 ⟨o4,o5,rfl⟩))) <;>
   (try simp -implicitDefEqProofs (disch := first | assumption | omega) only [sx,sb,sd,se,xwS,xwO,xwI,oEv,xres,o1f,Nat.reduceAdd,Nat.reduceEqDiff,Nat.reduceSub, ↓reduceIte,reduceCtorEq,wrap_i64,Nat.zero_add,Int.toNat_natCast,et, *]))
  ·refine ⟨n - 1,by omega,i + 1,by omega,by simp,?_⟩
   rw [bothN_succ,hbb,Bool.true_or]
  ·have hi : i = ys.length := by omega
   rw [hi] at hbb
   exact ⟨v4,by rw [hbb],o4,o5⟩
theorem addKey_mem {n : Int} {v : V} : ∀ {es : List (Int × V)} {k : Int},k ∈ (addKey n v es).map Prod.fst -> k = n \/ k ∈ es.map Prod.fst
 | [],k,h => by simpa [addKey] using h
 | (a,x) :: r,k,h => by
  unfold addKey at h
  by_cases h1 : n < a
  ·rw [decide_eq_true h1] at h
   simpa using h
  ·rw [decide_eq_false h1] at h
   simp only at h
   by_cases h2 : a < n
   ·rw [decide_eq_true h2] at h
    simp only [List.map_cons,List.mem_cons] at h ⊢
    rcases h with h | h
    ·exact .inr (.inl h)
    ·exact (addKey_mem h).imp (fun q => q) .inr
   ·rw [decide_eq_false h2] at h
    simp only [List.map_cons,List.mem_cons] at h ⊢
    exact h.imp (fun q => q) .inr
theorem addKey_rise {n : Int} {v : V} : ∀ {es : List (Int × V)},(es.map Prod.fst).Pairwise (· < ·) -> ((addKey n v es).map Prod.fst).Pairwise (· < ·)
 | [],_ => by simp [addKey]
 | (a,x) :: r,h => by
  rw [List.map_cons,List.pairwise_cons] at h
  unfold addKey
  by_cases h1 : n < a
  ·rw [decide_eq_true h1]
   simp only [List.map_cons,List.pairwise_cons]
   refine ⟨fun z hz => ?_,h.1,h.2⟩
   rcases List.mem_cons.1 hz with rfl | hz
   ·exact h1
   ·have := h.1 z hz
    simp only at this
    omega
  ·rw [decide_eq_false h1]
   simp only
   by_cases h2 : a < n
   ·rw [decide_eq_true h2]
    simp only [List.map_cons,List.pairwise_cons]
    refine ⟨fun z hz => ?_,addKey_rise h.2⟩
    rcases addKey_mem hz with rfl | hz
    ·exact h2
    ·exact h.1 z hz
   ·rw [decide_eq_false h2]
    simp only [List.map_cons,List.pairwise_cons]
    refine ⟨fun z hz => ?_,h.2⟩
    have := h.1 z hz
    simp only at this
    omega
end Go.Proofs.YtmkbnbpblhoekaaGreat
