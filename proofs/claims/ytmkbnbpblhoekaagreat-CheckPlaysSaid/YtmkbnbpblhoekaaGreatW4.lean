/- X, an executor of the program's compiled code, with its proof: part 5. -/
import Derived.Test.YtmkbnbpblhoekaaGreatW2
import Derived.Shelf.SlIterI.Sorted
import Derived.Shelf.SlIterI.Nil
namespace Go.Xr
open Go.RowKit Go.Proofs Go.Shelf Go.Maps Go.Sort
section
variable [RoLim] {P : Program}
theorem Rel.pushBelow {K : Nat -> Prop} {w0 w w' : World} {μ : Mu} {h : Heap} (R : Rel P K w0 μ h w) (hb : Below w.heap.size w w') {cs : List V} {kap esz g : Nat} {arr : Array Value} {et : TypeId} (hg : w.heap.size <= g) (hblk : w'.heap[g]? = some (.cells arr et (0,0)))
  (hv : ∀ (i : Nat) v,cs[i]? = some v -> ∃ x,arr[i]? = some x /\ VR μ v x) (hs : cs.length <= kap * esz /\ kap * esz <= arr.size /\ 0 < esz) :
  Rel P K w0 (μ.put h.next 0 ⟨g,0,kap,esz⟩) (nCs h cs esz true) w' := by
 have hlt : g < w'.heap.size := (Array.getElem?_eq_some_iff.1 hblk).1
 have hmine : Mine K μ h h.next g := R.mine_fresh h.next hg
 have hle : μ.le (μ.put h.next 0 ⟨g,0,kap,esz⟩) := Mu.le_put _ (R.fresh 0)
 have hno : ∀ o' g' l',(μ.put h.next 0 ⟨g,0,kap,esz⟩) o' g' = some l' -> μ o' g' = some l' \/ (o' = h.next /\ g' = 0 /\ l' = ⟨g,0,kap,esz⟩) := by
  intro o' g' l' hm
  by_cases e : o' = h.next /\ g' = 0
  ·obtain ⟨rfl,rfl⟩ := e
   rw [Mu.put_same] at hm
   cases hm
   exact .inr ⟨rfl,rfl,rfl⟩
  ·rw [Mu.put_other _ _ e] at hm
   exact .inl hm
 refine R.step h.next _ hle (fun o' => Heap.get_push ..) (Nat.le_succ _) (Nat.lt_succ_self _) hb.size (fun b hlt => .inl (hb.block b hlt)) (fun o' g' l' hm => ?_) (fun g' l' _ hm => ?_) (fun g' l' hm => ?_) ⟨fun g' L hL => ?_,by simp,fun g1 g2 M M' l1 l2 hM hM' m1 m2 _ => ?_⟩
  (fun oi mo ins seen cur kd es ins' q1 q2 q3 => ?_) hb.os hb.tape hb.output
 ·rcases hno _ _ _ hm with h1 | ⟨rfl,_,rfl⟩
  ·exact .inl h1
  ·exact .inr ⟨rfl,hlt⟩
 ·rcases hno _ _ _ hm with h1 | ⟨_,_,rfl⟩
  ·rw [R.fresh] at h1; cases h1
  ·exact hmine
 ·rcases hno _ _ _ hm with h1 | ⟨_,rfl,rfl⟩
  ·rw [R.fresh] at h1; cases h1
  ·exact Nat.le_refl 0
 ·obtain ⟨rfl,rfl⟩ := lenOf_only rfl hL
  refine ⟨⟨g,0,kap,esz⟩,arr,et,(0,0),Mu.put_same ..,rfl,hblk,fun _ => rfl,Nat.le_refl _,fun i v _ hi => ?_,fun _ _ => by simpa using hs,fun q => by cases q⟩
  obtain ⟨x,h1,h2⟩ := hv i v hi
  exact ⟨x,by simpa using h1,h2.mono hle⟩
 ·obtain ⟨rfl,rfl⟩ := lenOf_only rfl hM
  obtain ⟨rfl,rfl⟩ := lenOf_only rfl hM'
  rw [m1] at m2
  cases m2
  rfl
 ·unfold nCs at q1 q2
  rw [Heap.get_push] at q1 q2
  rcases q3 with rfl | rfl
  ·simp at q1
  ·simp at q2
omit [RoLim] in
def keysWf : List (Int × V) -> Bool
 | [] => true
 | (k,_) :: r => (Lit.int .i64 k).wf && keysWf r
omit [RoLim] in
theorem keysWf_mem : ∀ {es : List (Int × V)},keysWf es = true -> ∀ p ∈ es,(Lit.int .i64 p.1).wf = true
 | [],_,p,hp => by cases hp
 | (k,v) :: r,h,p,hp => by
  simp only [keysWf,Bool.and_eq_true] at h
  rcases List.mem_cons.1 hp with rfl | hp
  ·exact h.1
  ·exact keysWf_mem h.2 p hp
omit [RoLim] in
def anyElem (_ : Value) : Option (DataW Unit × List MemPlace) := some (.nil,[])
omit [RoLim] in
theorem rg_key {μ : Mu} {es : List (Int × V)} {es' : List MapEntry} {clock : Nat} (hr : MR μ .i64 es es' clock) (hw : keysWf es = true) {k : TypeId} (hk : P.underlying k = some (.int .i64)) {e : MapEntry} (he : e ∈ es') :
  ∃ n v,hasKey n es = some v /\ e.key = .int .i64 n /\ WideElems.rd P k anyElem e = some (.int .i64 n,.nil) := by
 obtain ⟨n,v,h1,h2,_⟩ := hr.there e he
 refine ⟨n,v,h2,h1,?_⟩
 have hwf := keysWf_mem hw _ (hasKey_mem h2)
 simp only at hwf
 simp [WideElems.rd,keyOf,hk,mapKey,h1,hwf,anyElem]
omit [RoLim] in
theorem nums_perm {μ : Mu} {es : List (Int × V)} {es' : List MapEntry} {clock : Nat} (hr : MR μ .i64 es es' clock) (hw : keysWf es = true) {k : TypeId} (hk : P.underlying k = some (.int .i64)) :
  (intKeys (.map ((es'.map (WideElems.rg P k anyElem)).foldr DataW.insert [] : List (Lit × DataW Unit)))).Perm (es.map fun p => p.1) := by
 have hnum : ∀ e ∈ es', ∃ n v,hasKey n es = some v /\ e.key = .int .i64 n /\ intOf (WideElems.rg P k anyElem e).1 = n := by
  intro e he
  obtain ⟨n,v,h1,h2,h3⟩ := rg_key hr hw hk he
  exact ⟨n,v,h1,h2,by rw [WideElems.rg_of h3]; rfl⟩
 have hp1 : (intKeys (.map ((es'.map (WideElems.rg P k anyElem)).foldr DataW.insert [] : List (Lit × DataW Unit)))).Perm (es'.map fun e => intOf (WideElems.rg P k anyElem e).1) := by
  show (List.map _ _).Perm _
  have := (WideShapes.sorted_perm (es'.map (WideElems.rg P k anyElem))).map (fun p : Lit × DataW Unit => intOf p.1)
  simpa [List.map_map,Function.comp_def] using this
 refine hp1.trans ((List.perm_ext_iff_of_nodup ?_ ?_).2 fun n => ?_)
 ·refine List.pairwise_map.2 (hr.keys.imp_of_mem fun {a b} ha hb hne e => hne ?_)
  obtain ⟨n,_,_,a1,a2⟩ := hnum a ha
  obtain ⟨m,_,_,b1,b2⟩ := hnum b hb
  rw [a2,b2] at e
  rw [a1,b1,e]
 ·exact List.pairwise_map.2 (hr.sorted.imp fun {a b} h e => by omega)
 ·rw [List.mem_map,List.mem_map]
  constructor
  ·rintro ⟨e,he,rfl⟩
   obtain ⟨n,v,a1,_,a3⟩ := hnum e he
   exact ⟨(n,v),hasKey_mem a1,a3.symm⟩
  ·rintro ⟨⟨n,v⟩,hp,rfl⟩
   obtain ⟨e,he,hk'⟩ := hr.back n v (hasKey_of_mem hr.sorted hp)
   obtain ⟨m,_,_,b1,b2⟩ := hnum e he
   rw [hk'] at b1
   cases b1
   exact ⟨e,he,b2⟩
omit [RoLim] in
theorem sorted_nums {μ : Mu} {es : List (Int × V)} {es' : List MapEntry} {clock : Nat} (hr : MR μ .i64 es es' clock) (hw : keysWf es = true) {k : TypeId} (hk : P.underlying k = some (.int .i64)) {ss : List Int}
  (hp : ss.Perm (intKeys (.map ((es'.map (WideElems.rg P k anyElem)).foldr DataW.insert [] : List (Lit × DataW Unit))))) : ss.mergeSort (fun x y => decide (x <= y)) = es.map fun p => p.1 := by
 have := mergeSort_of_perm_i (hp.trans (nums_perm hr hw hk))
 refine this.trans (List.mergeSort_of_pairwise ?_)
 refine List.pairwise_map.2 (hr.sorted.imp fun {a b} h => ?_)
 simp only [leI,decide_eq_true_eq]
 omega
theorem owns_of {K : Nat -> Prop} {w0 w : World} {μ : Mu} {h : Heap} (R : Rel P K w0 μ h w) {mo ins : Nat} {es : List (Int × V)} (hgm : h.get mo = some (.map .i64 es ins)) (hw : keysWf es = true) {k : TypeId} (hk : P.underlying k = some (.int .i64)) (hlen : es.length <= maxLen) :
  ∃ lm es' clock,μ mo 0 = some lm /\ w.ownsMap P k anyElem lm.blk es.length (.map ((es'.map (WideElems.rg P k anyElem)).foldr DataW.insert []) : DataW Unit) /\ MR μ .i64 es es' clock := by
 obtain ⟨lm,es',clock,h1,h2,h3⟩ := (R.obj mo _ hgm).2
 refine ⟨lm,es'.toList,clock,h1,⟨es',clock,h2,⟨?_,⟨h3.young,?_,?_⟩,fun x hx => ?_⟩,?_,rfl⟩,h3⟩
 ·have := h3.size; simp at this; omega
 ·exact List.pairwise_map.2 h3.stamps
 ·exact List.pairwise_map.2 h3.keys
 ·obtain ⟨n,v,_,_,q⟩ := rg_key h3 hw hk hx
  exact ⟨_,q⟩
 ·have := h3.size; simp at this; omega
omit [RoLim] in
def keysOut (es : List (Int × V)) (h : Heap) : V × Heap :=
 match es with
 | [] => (.nils,h)
 | _ :: _ => (.slice h.next 0 0 es.length (.rest 0 1),nCs h (es.map fun p => .int .i64 p.1) 1 true)
theorem keysOut_after {K : Nat -> Prop} {w0 w w' : World} {μ : Mu} {h : Heap} (R : Rel P K w0 μ h w) (hb : Below w.heap.size w w') {es : List (Int × V)} {et : TypeId} {v : Value} {n : Nat} (hn : n = es.length) (hrow : w'.ownsRow w.heap.size et 1 v n ((es.map fun p => p.1).map encZ)) (hnil : v = .slice none 0 0 ↔ es = []) :
  ∃ μ',Aft P K w0 μ μ' (keysOut es h).1 (keysOut es h).2 v w' := by
 subst hn
 cases es with
 | nil =>
  have := hnil.2 rfl
  subst this
  exact ⟨μ,Mu.le_refl μ,R.below hb,.nils⟩
 | cons p r =>
  rcases hrow.2 with ⟨e,_⟩ | ⟨g,cap,cur,rfl,hg,hblk,h1,h2,h3,h4⟩
  ·have := hnil.1 e; cases this
  ·have hlen : (p :: r).length = r.length + 1 := rfl
   have R' := R.pushBelow hb (cs := (p :: r).map fun p => .int .i64 p.1) (kap := cap) (esz := 1) hg hblk (fun i v hi => ?_) ⟨by simpa using h1,by omega,Nat.one_pos⟩
   ·exact ⟨_,Mu.le_put _ (R.fresh 0),R',.rest (Mu.put_same ..) _ (.inl rfl) (by simpa using h1) (by simp) rfl⟩
   ·have hi2 : i < (p :: r).length := by
     have := (List.getElem?_eq_some_iff.1 hi).1
     simpa using this
    have : (cur.toList.take ((p :: r).length * 1))[i]? = some (encZ ((p :: r)[i]).1) := by rw [h4,List.map_map,List.getElem?_map,List.getElem?_eq_getElem hi2]; rfl
    rw [List.getElem?_take_of_lt (by omega),Array.getElem?_toList] at this
    refine ⟨_,this,?_⟩
    rw [List.getElem?_map,List.getElem?_eq_getElem hi2] at hi
    simp only [Option.map_some,Option.some.injEq] at hi
    subst hi
    exact .int ..
variable {ρK ρS : Ren}
theorem sortedKeys_wp (LK : SlLaysZI.n10 P ρK) (LS : SlLaysZI.n6 P ρS) (hsort : ∀ m,AnyZI.SortsIn P ρS Fence.wide m) (e9 : ∀ args w,(callFunc (ρS.f 9) args).run P w = .ok (.enter (ρS.f 9) args) w) (eg : ∀ args w,(callFunc (ρK.f 10) args).run P w = .ok (.enter (ρK.f 10) args) w)
  {fn : Func} (hf : P.funcs[ρS.f 6]? = some fn) (hreal : Func.real fn) {h : Heap} {o mo ins : Nat} {c : Cells} {es : List (Int × V)} (hg : h.get o = some (.cells c)) (hsp : c.spare = false) (hc0 : rCs h o 0 0 1 = some [.map mo]) (hgm : h.get mo = some (.map .i64 es ins))
  (hwf : keysWf es = true) (hlen : es.length * 8 <= 140737488355328) : CallWP P false (ρS.f 6) [.func (ρK.f 10) [] [.ptr o 0 0]] h fun v h' => v = (keysOut es h).1 /\ h' = (keysOut es h).2 := by
 refine callWP_of_calls hf hreal fun K w0 μ w args' R hv => ?_
 cases hv with
 | cons hv hnil0 =>
  cases hnil0
  cases hv with
  | @func _ _ _ a' b' ha hb =>
   cases ha
   cases hb with
   | cons hp hnil1 =>
    cases hnil1
    cases hp with
    | @ptr _ _ _ l hl =>
     have hmax : es.length <= maxLen := by
      have : (140737488355328 : Nat) <= maxLen := by decide
      omega
     obtain ⟨lm,es',clock,m1,hown,hmr⟩ := owns_of R hgm hwf LK.t26 hmax
     -- the box
     have hL : ∃ L,c.lenOf 0 = some L /\ 0 < L /\ c.cs[0]? = some (.map mo) := by
      unfold rCs Heap.cells? at hc0
      rw [hg] at hc0
      simp only at hc0
      split at hc0
      ·rename_i L hL
       split at hc0 <;> simp at hc0
       rename_i hle
       refine ⟨L,hL,by simp at hle; omega,?_⟩
       cases hcs : c.cs with
       | nil => rw [hcs] at hc0; simp at hc0
       | cons a r => rw [hcs] at hc0; simp at hc0; simp [hc0]
      ·cases hc0
     obtain ⟨L,hL,hpos,hcs⟩ := hL
     obtain ⟨l',arr,et,fz,q1,q2,q3,q4,q5,q6,q7⟩ := R.cellsAt hg hL
     rw [hl] at q1
     cases q1
     have hbase := q7.2 hsp
     obtain ⟨x,x1,x2⟩ := q6 0 _ hpos hcs
     have hcell : w.cell? ⟨l.blk,0,none⟩ = some (.map (some lm.blk)) := by
      cases x2 with
      | @map _ lm' hm' =>
       rw [m1] at hm'
       cases hm'
       rw [hbase] at x1
       simp [World.cell?,q3]
       simpa using x1
     have hD : (Maps.size (.map ((es'.map (WideElems.rg P (ρK.t 26) anyElem)).foldr DataW.insert []) : DataW Unit)) = es.length := by
      rw [Maps.size_eq,(WideShapes.sorted_perm _).length_eq]
      simp [hmr.size]
     have hseq : SeqGives Fence.wide 1 P (ρK.f 10) #[.pointer (some ⟨l.blk,0,none⟩)] encZ _ _ w := AnyZI.keys_gives LK Fence.wide 1 trivial rfl (Nat.le_refl _) l.blk lm.blk es.length _ w (R.dom _ _ _ hl).2 hcell hown
     have cS := AnyZI.sorted_in LS Fence.wide 4 trivial trivial trivial trivial rfl (Nat.le_refl _) (hsort _) e9 (ρK.f 10) #[.pointer (some ⟨l.blk,0,none⟩)] trivial eg _ _ (by rw [hD]; exact hmax) (by rw [hD]; exact hlen) w hseq
     have cS := (callsIn_wide (n := 4)).1 cS
     rw [hbase]
     refine Calls.mono cS fun e w' ⟨v,ss,e1,hS,hrow,hnil,hbel⟩ => ?_
     have hsn := sorted_nums hmr hwf LK.t26 hS
     rw [hsn] at hrow
     have hlen' : ss.length = es.length := by
      have := congrArg List.length hsn
      simpa using this
     obtain ⟨μ',hA⟩ := keysOut_after R hbel hlen' hrow (hnil.trans ⟨fun q => by subst q; simp at hlen'; exact List.eq_nil_of_length_eq_zero hlen'.symm,fun q => by subst q; simp at hlen'; exact hlen'⟩)
     exact ⟨_,_,μ',v,⟨rfl,rfl⟩,hA,e1⟩
theorem sortedKeys_nil_wp (LK : SlLaysZI.n10 P ρK) (LS : SlLaysZI.n6 P ρS) (hsort : ∀ m,AnyZI.SortsIn P ρS Fence.wide m) (e9 : ∀ args w,(callFunc (ρS.f 9) args).run P w = .ok (.enter (ρS.f 9) args) w) (eg : ∀ args w,(callFunc (ρK.f 10) args).run P w = .ok (.enter (ρK.f 10) args) w)
  {fn : Func} (hf : P.funcs[ρS.f 6]? = some fn) (hreal : Func.real fn) {h : Heap} {o : Nat} {c : Cells} (hg : h.get o = some (.cells c)) (hsp : c.spare = false) (hc0 : rCs h o 0 0 1 = some [.nilm]) :
  CallWP P false (ρS.f 6) [.func (ρK.f 10) [] [.ptr o 0 0]] h fun v h' => v = .nils /\ h' = h := by
 refine callWP_of_calls hf hreal fun K w0 μ w args' R hv => ?_
 cases hv with
 | cons hv hnil0 =>
  cases hnil0
  cases hv with
  | @func _ _ _ a' b' ha hb =>
   cases ha
   cases hb with
   | cons hp hnil1 =>
    cases hnil1
    cases hp with
    | @ptr _ _ _ l hl =>
     have hL : ∃ L,c.lenOf 0 = some L /\ 0 < L /\ c.cs[0]? = some .nilm := by
      unfold rCs Heap.cells? at hc0
      rw [hg] at hc0
      simp only at hc0
      split at hc0
      ·rename_i L hL
       split at hc0 <;> simp at hc0
       rename_i hle
       refine ⟨L,hL,by simp at hle; omega,?_⟩
       cases hcs : c.cs with
       | nil => rw [hcs] at hc0; simp at hc0
       | cons a r => rw [hcs] at hc0; simp at hc0; simp [hc0]
      ·cases hc0
     obtain ⟨L,hL,hpos,hcs⟩ := hL
     obtain ⟨l',arr,et,fz,q1,q2,q3,q4,q5,q6,q7⟩ := R.cellsAt hg hL
     rw [hl] at q1
     cases q1
     have hbase := q7.2 hsp
     obtain ⟨x,x1,x2⟩ := q6 0 _ hpos hcs
     have hcell : w.cell? ⟨l.blk,0,none⟩ = some (.map none) := by
      cases x2
      rw [hbase] at x1
      simp [World.cell?,q3]
      simpa using x1
     have hseq : SeqGives Fence.wide 1 P (ρK.f 10) #[.pointer (some ⟨l.blk,0,none⟩)] encZ _ _ w := AnyZI.keys_gives_nil LK Fence.wide 1 trivial rfl l.blk w (R.dom _ _ _ hl).2 hcell
     have cS := AnyZI.sorted_in LS Fence.wide 4 trivial trivial trivial trivial rfl (Nat.le_refl _) (hsort _) e9 (ρK.f 10) #[.pointer (some ⟨l.blk,0,none⟩)] trivial eg _ _ (Nat.zero_le _) (by omega) w hseq
     have cS := (callsIn_wide (n := 4)).1 cS
     rw [hbase]
     refine Calls.mono cS fun e w' ⟨v,ss,e1,hS,hrow,hnil,hbel⟩ => ?_
     have := hnil.2 hS
     subst this
     exact ⟨_,_,μ,_,⟨rfl,rfl⟩,⟨Mu.le_refl μ,R.below hbel,.nils⟩,e1⟩
omit [RoLim] in
def sortedHook (fS fK : Nat) : Task -> Option Out
 | .call false f [.func g [] [.ptr o 0 0]] h => match Nat.beq f fS && Nat.beq g fK with
  | false => none
  | true => match h.get o with
   | some (.cells c) => match c.spare,rCs h o 0 0 1 with
    | false,some [.map mo] => match h.get mo with
     | some (.map .i64 es _) => match keysWf es && Nat.ble (es.length * 8) 140737488355328 with
      | true => match keysOut es h with
       | (v,h') => some (.call v h')
      | false => none
     | _ => none
    | false,some [.nilm] => some (.call .nils h)
    | _,_ => none
   | _ => none
 | _ => none
theorem sortedHook_sound (LK : SlLaysZI.n10 P ρK) (LS : SlLaysZI.n6 P ρS) (hsort : ∀ m,AnyZI.SortsIn P ρS Fence.wide m) (e9 : ∀ args w,(callFunc (ρS.f 9) args).run P w = .ok (.enter (ρS.f 9) args) w) (eg : ∀ args w,(callFunc (ρK.f 10) args).run P w = .ok (.enter (ρK.f 10) args) w)
  {fn : Func} (hf : P.funcs[ρS.f 6]? = some fn) (hreal : Func.real fn) : HookOk P (sortedHook (ρS.f 6) (ρK.f 10)) := by
 intro k r hk
 unfold sortedHook at hk
 split at hk
 ·split at hk
  ·cases hk
  ·rename_i hfg
   simp only [Bool.and_eq_true] at hfg
   have e1 := Nat.eq_of_beq_eq_true hfg.1
   have e2 := Nat.eq_of_beq_eq_true hfg.2
   subst e1; subst e2
   split at hk <;> try (cases hk; done)
   rename_i c hg
   split at hk
   ·rename_i mo hsp hc0
    split at hk <;> try (cases hk; done)
    rename_i es ins hgm
    split at hk <;> try (cases hk; done)
    rename_i hcond
    simp only [Bool.and_eq_true] at hcond
    simp only [Option.some.injEq] at hk
    subst hk
    exact sortedKeys_wp LK LS hsort e9 eg hf hreal hg hsp hc0 hgm hcond.1 (Nat.le_of_ble_eq_true hcond.2)
   ·rename_i hsp hc0
    simp only [Option.some.injEq] at hk
    subst hk
    exact sortedKeys_nil_wp LK LS hsort e9 eg hf hreal hg hsp hc0
   ·cases hk
 ·cases hk
end
end Go.Xr
