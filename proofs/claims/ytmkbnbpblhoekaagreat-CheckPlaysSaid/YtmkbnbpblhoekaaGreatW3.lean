/- X, an executor of the program's compiled code, with its proof: part 4. -/
import Derived.Test.YtmkbnbpblhoekaaGreatW2
import Derived.Shelf.SlSortCmp.Whole1
import GoSem.ClaimChange
namespace Go.Xr
open Go.RowKit Go.Proofs Go.Shelf Go.Sort
def litVar (l : Int) : Int := if l < 0 then -l else l
def litBefore (a b : Int) : Bool := decide (litVar a < litVar b \/ (litVar a = litVar b /\ a < b))
def insLit (x : Int) : List Int -> List Int
 | [] => [x]
 | y :: ys => if litBefore y x then y :: insLit x ys else x :: y :: ys
def sortLits : List Int -> List Int
 | [] => []
 | x :: xs => insLit x (sortLits xs)
theorem litBefore_irrefl (a : Int) : litBefore a a = false := by simp [litBefore]
theorem litBefore_trans {a b c : Int} (h1 : litBefore a b = true) (h2 : litBefore b c = true) : litBefore a c = true := by
 simp only [litBefore,decide_eq_true_eq] at *
 omega
theorem litBefore_total (a b : Int) : litBefore a b = true \/ a = b \/ litBefore b a = true := by
 simp only [litBefore,decide_eq_true_eq]
 omega
theorem litBefore_asymm {a b : Int} (h : litBefore a b = true) : litBefore b a = false := by
 simp only [litBefore,decide_eq_true_eq,decide_eq_false_iff_not] at *
 omega
theorem insLit_perm (x : Int) : ∀ ys,(insLit x ys).Perm (x :: ys)
 | [] => .refl _
 | y :: ys => by
  unfold insLit
  split
  ·exact ((insLit_perm x ys).cons y).trans (.swap x y ys)
  ·exact .refl _
theorem sortLits_perm : ∀ xs,(sortLits xs).Perm xs
 | [] => .refl _
 | x :: xs => (insLit_perm x _).trans ((sortLits_perm xs).cons x)
def Rising (l : List Int) : Prop := l.Pairwise fun a b => litBefore b a = false
theorem insLit_rising (x : Int) : ∀ {ys},Rising ys -> Rising (insLit x ys)
 | [],_ => by simp [insLit,Rising]
 | y :: ys,h => by
  obtain ⟨h1,h2⟩ := List.pairwise_cons.1 h
  unfold insLit
  split
  ·rename_i hyx
   refine List.pairwise_cons.2 ⟨fun z hz => ?_,insLit_rising x h2⟩
   rcases List.mem_cons.1 ((insLit_perm x ys).mem_iff.1 hz) with rfl | hz
   ·exact litBefore_asymm hyx
   ·exact h1 z hz
  ·rename_i hyx
   have hyx : litBefore y x = false := by simpa using hyx
   refine List.pairwise_cons.2 ⟨fun z hz => ?_,h⟩
   rcases List.mem_cons.1 hz with rfl | hz
   ·exact hyx
   ·have := h1 z hz
    simp only [litBefore,decide_eq_false_iff_not] at *
    omega
theorem sortLits_rising : ∀ xs,Rising (sortLits xs)
 | [] => .nil
 | x :: xs => insLit_rising x (sortLits_rising xs)
theorem rising_unique : ∀ {a b : List Int},Rising a -> Rising b -> a.Perm b -> a = b
 | [],b,_,_,hp => by rw [List.nil_perm.1 hp]
 | x :: a,[],_,_,hp => by have := hp.length_eq; simp at this
 | x :: a,y :: b,ha,hb,hp => by
  obtain ⟨a1,a2⟩ := List.pairwise_cons.1 ha
  obtain ⟨b1,b2⟩ := List.pairwise_cons.1 hb
  have e : x = y := by
   rcases litBefore_total x y with h | h | h
   ·have : x ∈ y :: b := hp.mem_iff.1 List.mem_cons_self
    rcases List.mem_cons.1 this with h1 | h1
    ·exact h1
    ·rw [b1 x h1] at h; cases h
   ·exact h
   ·have : y ∈ x :: a := hp.mem_iff.2 List.mem_cons_self
    rcases List.mem_cons.1 this with h1 | h1
    ·exact h1.symm
    ·rw [a1 y h1] at h; cases h
  subst e
  rw [rising_unique a2 b2 hp.cons_inv]
abbrev I32 := {n : Int // -2147483648 <= n /\ n <= 2147483647}
instance : Inhabited I32 := ⟨⟨0,by decide⟩⟩
def encI32 (x : I32) : Value := .int .i32 x.1
def litCmp (a b : I32) : Int := if litVar a.1 < litVar b.1 then -1 else if litVar b.1 < litVar a.1 then 1 else if a.1 < b.1 then -1 else if b.1 < a.1 then 1 else 0
theorem lt_litCmp (a b : I32) : ltOf litCmp a b = litBefore a.1 b.1 := by
 unfold ltOf litCmp litBefore
 apply decide_eq_decide.2
 repeat' split
 all_goals omega
theorem litCmp_swo : SWO (ltOf litCmp) where
 irrefl x := by rw [lt_litCmp]; exact litBefore_irrefl _
 trans x y z h1 h2 := by rw [lt_litCmp] at *; exact litBefore_trans h1 h2
 ntrans x y z h1 h2 := by
  rw [lt_litCmp] at *
  simp only [litBefore,decide_eq_false_iff_not] at *
  omega
def CmpLits (P : Program) (g : Nat) : Prop := ∀ (x y : I32) (w : World),Calls P g #[encI32 x,encI32 y] w fun e w' => e = .returned (.int .i64 (litCmp x y)) /\ ∃ q os,w' = grow (w.drewN q) os
def litsOf : List V -> Option (List Int)
 | [] => some []
 | .int .i32 n :: vs => match litsOf vs with
  | some ns => if -2147483648 <= n /\ n <= 2147483647 then some (n :: ns) else none
  | none => none
 | _ => none
theorem litsOf_spec : ∀ {vs : List V} {ns : List Int},litsOf vs = some ns -> vs = ns.map (.int .i32) /\ ∀ n ∈ ns, -2147483648 <= n /\ n <= 2147483647
 | [],ns,h => by cases h; exact ⟨rfl,fun _ h => by cases h⟩
 | v :: vs,ns,h => by
  unfold litsOf at h
  split at h
  ·rename_i heq; cases heq
  ·rename_i n vs' heq
   cases heq
   split at h
   ·rename_i ns' e
    split at h
    ·rename_i hr
     cases h
     obtain ⟨e1,e2⟩ := litsOf_spec e
     exact ⟨by rw [e1]; rfl,fun m hm => by rcases List.mem_cons.1 hm with rfl | hm; exact hr; exact e2 m hm⟩
    ·cases h
   ·cases h
  ·cases h
theorem litsOf_map : ∀ {ns : List Int},(∀ n ∈ ns, -2147483648 <= n /\ n <= 2147483647) -> litsOf (ns.map (.int .i32)) = some ns
 | [],_ => rfl
 | n :: ns,h => by
  simp only [List.map_cons,litsOf]
  rw [litsOf_map fun m hm => h m (List.mem_cons_of_mem _ hm)]
  simp only
  rw [if_pos (h n List.mem_cons_self)]
def sortHook (fS fC : Nat) : Task -> Option Out
 | .call false f [.slice o g off (len + 1) _,.int .i64 a,.int .i64 b,.int .i64 (.ofNat lim),.func g' [] []] h => match Nat.beq f fS && Nat.beq g' fC && decide (a = 0) && decide (b = (len + 1 : Nat)) && Nat.ble lim 4611686018427387903 with
  | false => none
  | true => match rCs h o g off (len + 1) with
   | none => none
   | some vs => match litsOf vs,Nat.ble (len + 1) 4611686018427387903 with
    | some ns,true => match writeCells h o g off ((sortLits ns).map (.int .i32)) with
     | some h' => some (.call (.tup []) h')
     | none => none
    | _,_ => none
 | _ => none
def bitsHook (fB : Nat) : Task -> Option Out
 | .call false f [.int .u64 n] h => match Nat.beq f fB && decide (0 <= n /\ n <= 18446744073709551615) with
  | true => some (.call (.int .i64 (Lib.bitLen n.toNat)) h)
  | false => none
 | _ => none
section
variable [RoLim] {P : Program} {ρ : Ren}
omit [RoLim] in
theorem VRs_ints {μ : Mu} {k : IntKind} : ∀ ns : List Int,VRs μ (ns.map (.int k)) (ns.map (.int k))
 | [] => .nil
 | _ :: ns => .cons (.int ..) (VRs_ints ns)
theorem sort_wp (L : SlLaysF.n14 P ρ) {fn : Func} (hf : P.funcs[ρ.f 14]? = some fn) (hreal : Func.real fn) {fC : Nat} (eg : ∀ args w,(callFunc fC args).run P w = .ok (.enter fC args) w) (hcmp : CmpLits P fC)
  {h h' : Heap} {o g off len lim : Nat} {cap : Cap} {ns : List Int} (hlim : lim <= 4611686018427387903) (hr : rCs h o g off (len + 1) = some (ns.map (.int .i32))) (hn : ∀ n ∈ ns, -2147483648 <= n /\ n <= 2147483647) (hlen : len + 1 <= 4611686018427387903)
  (hw : writeCells h o g off ((sortLits ns).map (.int .i32)) = some h') : CallWP P false (ρ.f 14) [.slice o g off (len + 1) cap,.int .i64 0,.int .i64 (len + 1 : Nat),.int .i64 (.ofNat lim),.func fC [] []] h fun v h1 => v = .tup [] /\ h1 = h' := by
 refine callWP_of_calls hf hreal fun K w0 μ w args' R hv => ?_
 obtain ⟨c,M,hg,hM,hle,e⟩ := readCells_some hr
 obtain ⟨c2,M2,r2,hg2,hro,hgc,hlens,hle2,hone,he2⟩ := writeCells_some hw
 rw [hg] at hg2
 cases hg2
 have hL2 := lenOf_last hlens
 subst hgc
 rw [hM] at hL2
 cases hL2
 obtain ⟨l,arr,et,fz,hm,hesz,hblk,hfz,h5,h6,h7⟩ := R.cellsAt hg hM
 have hfz := hfz hro
 subst hfz
 have hnl : ns.length = len + 1 := by
  have := congrArg List.length e
  simp at this
  omega
 cases hv with
 | cons hv1 hv =>
 cases hv with
 | cons ha0 hv =>
 cases hv with
 | cons hb0 hv =>
 cases hv with
 | cons hl0 hv =>
 cases ha0
 cases hb0
 cases hl0
 cases hv with
 | cons hv2 hv =>
 cases hv
 rename_i x1 x2
 have hx2 : x2 = .func (.func fC) #[] #[] := by
  cases hv2 with
  | func ha hb => cases ha; cases hb; rfl
 have hx1 : ∃ sc,x1 = .slice (some ⟨l.blk,l.base + off,none⟩) (len + 1) sc := by
  cases hv1 with
  | @exact _ _ _ _ cc l' hm' a ha hlc =>
   rw [hm] at hm'
   cases hm'
   rcases ha with rfl | ⟨h0,_⟩
   ·exact ⟨_,rfl⟩
   ·omega
  | @rest _ _ _ _ _ _ l' hm' a ha hln ho he =>
   rw [hm] at hm'
   cases hm'
   rcases ha with rfl | ⟨h0,_⟩
   ·exact ⟨_,rfl⟩
   ·omega
 obtain ⟨sc,rfl⟩ := hx1
 subst hx2
 have hcell : ∀ (j : Nat) (hj : j < ns.length),arr[l.base + off + j]? = some (.int .i32 (ns[j])) := by
  intro j hj
  have h1 : c.cs[off + j]? = some (.int .i32 (ns[j])) := by
   have : (ns.map (V.int .i32))[j]? = some (.int .i32 (ns[j])) := by simp [hj]
   rw [e,List.getElem?_take,if_pos (by omega),List.getElem?_drop] at this
   exact this
  obtain ⟨x,hx,hvx⟩ := h6 (off + j) _ (by omega) h1
  cases hvx
  rw [<- Nat.add_assoc] at hx
  exact hx
 let d : Array I32 := (ns.pmap (fun n h => (⟨n,h⟩ : I32)) hn).toArray
 have hdv : d.toList.map (·.1) = ns := by simp [d,List.map_pmap]
 have hdn : d.size = len + 1 := by simp [d,hnl]
 have hdg : ∀ (j : Nat) (hj : j < ns.length),(d[j]!).1 = ns[j] := by
  intro j hj
  have hj' : j < d.size := by omega
  rw [getElem!_pos d j hj']
  simp [d]
 have hH : Holds encI32 w l.blk (l.base + off) d := by
  intro j hj
  have hj' : j < ns.length := by omega
  constructor
  ·have := hcell j hj'
   simp [World.cell?,hblk,this,encI32,hdg j hj']
  ·simp [World.frozen?,hblk]
 have hltb : l.blk < w.heap.size := (Array.getElem?_eq_some_iff.1 hblk).1
 have hc := Any.pdqsortCmpFunc_all L encI32 litCmp fC #[] litCmp_swo l.blk (l.base + off) sc d w eg (fun m os dk _ x y => by simpa using hcmp x y _) ⟨fun _ => rfl,hH,hltb⟩ (d.size + 1) 0 d.size lim d w (by omega) rfl (SW.start hH) (Nat.zero_le _) (Nat.le_refl _) (by omega) (by omega) (Or.inl rfl)
 rw [hdn] at hc
 refine Calls.mono hc fun e' w' ⟨he,n,os,hw'⟩ => ?_
 have hps := pdq_sorts (ltOf litCmp) litCmp_swo d 0 d.size lim true true (Nat.zero_le _) (Nat.le_refl _) (Or.inl rfl)
 rw [hdn] at hps
 generalize pdq (ltOf litCmp) d 0 (len + 1) lim true true = d' at hw' hps
 obtain ⟨hp,hs⟩ := hps
 have hsz' : d'.size = d.size := hp.1
 have hperm : (d'.toList.map (·.1)).Perm ns := by
  have h1 := hp.2.2
  have e1 : (d'.extract 0 (len + 1)).toList = d'.toList := by rw [<- hdn, <- hsz']; simp
  have e2 : (d.extract 0 (len + 1)).toList = d.toList := by rw [<- hdn]; simp
  rw [e1,e2] at h1
  have := h1.map (fun x : I32 => x.1)
  rw [hdv] at this
  exact this
 have hris : Rising (d'.toList.map (·.1)) := by
  unfold Rising
  rw [List.pairwise_map,List.pairwise_iff_getElem]
  intro i j hi hj hij
  have hi' : i < d'.size := by simpa using hi
  have hj' : j < d'.size := by simpa using hj
  have := hs i j (Nat.zero_le _) hij (by omega)
  rw [lt_litCmp,getElem!_pos d' j hj',getElem!_pos d' i hi'] at this
  simpa using this
 have hd' : d'.toList.map (·.1) = sortLits ns := rising_unique hris (sortLits_rising ns) (hperm.trans (sortLits_perm ns).symm)
 have hxs0 : d'.toList.map encI32 = (sortLits ns).map (.int .i32) := by
  rw [<- hd',List.map_map]
  rfl
 have hxs : VRs μ ((sortLits ns).map (.int .i32)) (d'.toList.map encI32) := by rw [hxs0]; exact VRs_ints _
 obtain ⟨w1,st,R1⟩ := R.write hw hxs hm
 have hlen' : (d'.toList.map encI32).length = len + 1 := by simp; omega
 have hsize : l.base + off + 0 + (d'.toList.map encI32).length <= arr.size := by
  have := (Array.getElem?_eq_some_iff.1 (hcell len (by omega))).1
  omega
 obtain ⟨w2,arr2,g1,g2,g3,g4,g5,g6,g7,g8,g9⟩ := run_storeCells (P := P) (b := l.blk) (off := l.base + off) (et := et) (d'.toList.map encI32) 0 w arr hblk (fun _ => hsize) (by
  intro x hx
  obtain ⟨y,_,rfl⟩ := List.mem_map.1 hx
  rfl)
 rw [st] at g1
 cases g1
 have hheap : (putRow encI32 (Sort.ahead w n) l.blk (l.base + off) d').heap = w1.heap := by
  apply Array.ext_getElem?
  intro b
  have e0 : (putRow encI32 (Sort.ahead w n) l.blk (l.base + off) d').heap = w.heap.modify l.blk (onCells (putCells encI32 (l.base + off) d')) := rfl
  rw [e0,Array.getElem?_modify]
  by_cases hb : l.blk = b
  ·subst hb
   rw [if_pos rfl,hblk,g2]
   simp only [Option.map_some,onCells]
   congr 2
   apply Array.ext_getElem?
   intro k
   rw [g4]
   unfold putCells
   rw [Array.getElem?_mapIdx]
   by_cases hk : l.base + off <= k /\ k < l.base + off + d'.size
   ·have hk2 : k < arr.size := by omega
    rw [if_pos (by omega),Array.getElem?_eq_getElem hk2,Option.map_some,if_pos hk]
    have hk3 : k - (l.base + off) < d'.size := by omega
    rw [getElem!_pos d' _ hk3]
    simp [hk3]
   ·rw [if_neg (by omega)]
    cases arr[k]? with
    | none => rfl
    | some y => simp only [Option.map_some]; rw [if_neg hk]
  ·rw [if_neg hb]
   exact (g5 b (Ne.symm hb)).symm
 have R2 : Rel P K w0 μ h' (putRow encI32 (Sort.ahead w n) l.blk (l.base + off) d') := R1.drawn hheap g7.symm g8.symm g9.symm
 have R3 : Rel P K w0 μ h' w' := by
  rw [hw']
  exact R2.below ⟨rfl,rfl,rfl,by simp [sortWorld,grow],fun k hk => by
   show ((putRow encI32 (Sort.ahead w n) l.blk (l.base + off) d').heap ++ os)[k]? = _
   rw [Array.getElem?_append_left hk]⟩
 exact ⟨_,_,μ,_,⟨rfl,rfl⟩,⟨Mu.le_refl μ,R3,.tup .nil⟩,he⟩
theorem sortHook_sound (L : SlLaysF.n14 P ρ) {fn : Func} (hf : P.funcs[ρ.f 14]? = some fn) (hreal : Func.real fn) {fC : Nat} (eg : ∀ args w,(callFunc fC args).run P w = .ok (.enter fC args) w) (hcmp : CmpLits P fC) : HookOk P (sortHook (ρ.f 14) fC) := by
 intro k r hk
 unfold sortHook at hk
 split at hk
 ·split at hk
  ·cases hk
  ·rename_i hfg
   simp only [Bool.and_eq_true] at hfg
   obtain ⟨⟨⟨⟨q1,q2⟩,q3⟩,q4⟩,q5⟩ := hfg
   have e1 := Nat.eq_of_beq_eq_true q1
   have e2 := Nat.eq_of_beq_eq_true q2
   have e5 := of_decide_eq_true q3
   have e6 := of_decide_eq_true q4
   subst e1; subst e2; subst e5; subst e6
   split at hk
   ·cases hk
   ·rename_i vs hr
    split at hk
    ·rename_i ns hl hb
     split at hk
     ·rename_i h' hw
      cases hk
      obtain ⟨e3,e4⟩ := litsOf_spec hl
      subst e3
      exact sort_wp L hf hreal eg hcmp (Nat.le_of_ble_eq_true q5) hr e4 (Nat.le_of_ble_eq_true hb) hw
     ·cases hk
    ·cases hk
 ·cases hk
theorem bitsHook_sound (L : SlLaysF0.n15 P ρ) {fn : Func} (hf : P.funcs[ρ.f 15]? = some fn) (hreal : Func.real fn) : HookOk P (bitsHook (ρ.f 15)) := by
 intro k r hk
 unfold bitsHook at hk
 split at hk
 ·split at hk
  ·rename_i hb
   simp only [Bool.and_eq_true] at hb
   cases hk
   have e1 := Nat.eq_of_beq_eq_true hb.1
   subst e1
   obtain ⟨h0,h1⟩ := of_decide_eq_true hb.2
   refine callWP_of_calls hf hreal fun K w0 μ w args' R hv => ?_
   cases hv with
   | cons hv1 hv =>
   cases hv
   cases hv1
   refine Calls.mono (Any.bits_Len (SlLaysF0.n15.bits L) _ w h0 h1) fun e w' ⟨he,hw⟩ => ?_
   subst hw
   exact ⟨_,_,μ,_,⟨rfl,rfl⟩,⟨Mu.le_refl μ,R,.int ..⟩,he⟩
  ·cases hk
 ·cases hk
end
end Go.Xr
namespace Go.Xr
def Le (f g : Task -> Option Out) : Prop := ∀ k o,f k = some o -> g k = some o
section
variable {X : XProg} {hook ih ih' : Task -> Option Out}
theorem applyF_mono (hl : Le ih ih') {f : V} {args : List V} {h : Heap} {r : V × Heap} (hr : applyF ih f args h = some r) : applyF ih' f args h = some r := by
 unfold applyF at hr ⊢
 split at hr
 ·split at hr
  ·rename_i e; rw [hl _ _ e]; exact hr
  ·cases hr
 ·split at hr
  ·rename_i e; rw [hl _ _ e]; exact hr
  ·cases hr
 ·cases hr
theorem invokeF_mono (hl : Le ih ih') {x : V} {rows : List (Nat × Nat × Option (Bool × Nat))} {args : List V} {h : Heap} {r : V × Heap} (hr : invokeF ih x rows args h = some r) : invokeF ih' x rows args h = some r := by
 unfold invokeF at hr ⊢
 split at hr <;> try (cases hr; done)
 split at hr <;> try (cases hr; done)
 split at hr <;> try (cases hr; done)
 split at hr <;> try (cases hr; done)
 rename_i e; rw [hl _ _ e]; exact hr
theorem runStep_mono (hl : Le ih ih') {s : XStep} {rnd : Option Nat} {t : Tr V} {d : List XDef} {h : Heap} {r : V × List XDef × Heap} (hr : runStep ih s rnd t d h = some r) : runStep ih' s rnd t d h = some r := by
 unfold runStep at hr ⊢
 split at hr
 ·cases hr
 ·exact hr
 ·simp only at hr ⊢
  split at hr
  ·cases e : applyF ih (rd t _) (vals (rd t) _) h with
   | none => rw [e] at hr; cases hr
   | some q => rw [e] at hr; rw [applyF_mono hl e]; exact hr
  ·exact hr
  ·exact hr
  ·cases e : invokeF ih (rd t _) _ (vals (rd t) _) h with
   | none => rw [e] at hr; cases hr
   | some q => rw [e] at hr; rw [invokeF_mono hl e]; exact hr
  ·exact hr
theorem runLines_mono (hl : Le ih ih') {rnd : Option Nat} : ∀ {ls : List XLn} {t : Tr V} {d : List XDef} {h : Heap} {r : Tr V × List XDef × Heap},runLines ih rnd ls t d h = some r -> runLines ih' rnd ls t d h = some r
 | [],_,_,_,_,hr => hr
 | l :: ls,t,d,h,r,hr => by
  simp only [runLines] at hr ⊢
  cases e : runStep ih l.step rnd t d h with
  | none => rw [e] at hr; cases hr
  | some q =>
   rw [e] at hr
   rw [runStep_mono hl e]
   simp only at hr ⊢
   cases e2 : stays (putOpt t l.step.dst q.1) q.2.2 l.again with
   | false => rw [e2] at hr; cases hr
   | true => rw [e2] at hr; exact runLines_mono hl hr
theorem oneEnd_mono : ∀ {l l' : List (Option (Tr V × List XDef × Heap))},l.length = l'.length -> (∀ (i : Nat) r,l[i]? = some (some r) -> l'[i]? = some (some r)) -> ∀ {r},oneEnd l = some r -> oneEnd l' = some r
 | [],l',_,_,r,h => by cases h
 | [x],l',hlen,hl,r,h => by
  match l',hlen with
  | [y],_ =>
   have hx : x = some r := h
   have := hl 0 r (by rw [hx]; rfl)
   simpa [oneEnd] using this
 | none :: y :: l,l',hlen,hl,r,h => by cases h
 | some q :: y :: l,l',hlen,hl,r,h => by
  match l',hlen with
  | q' :: y' :: l',hlen =>
   have e1 := hl 0 q rfl
   simp only [List.getElem?_cons_zero,Option.some.injEq] at e1
   subst e1
   simp only [oneEnd] at h ⊢
   cases e : oneEnd (y :: l) with
   | none => rw [e] at h; cases h
   | some r' =>
    rw [e] at h
    rw [oneEnd_mono (l := y :: l) (l' := y' :: l') (by simpa using hlen) (fun i r hi => by have := hl (i + 1) r (by simpa using hi); simpa using this) e]
    exact h
theorem runRegion_mono (hl : Le ih ih') {dr : Bool} {rnd : Option Nat} {ls : List XLn} {t : Tr V} {d : List XDef} {h : Heap} {r : Tr V × List XDef × Heap} (hr : runRegion ih dr rnd ls t d h = some r) : runRegion ih' dr rnd ls t d h = some r := by
 unfold runRegion at hr ⊢
 cases dr with
 | false => exact runLines_mono hl hr
 | true =>
  simp only at hr ⊢
  cases e : anyOf ls with
  | none => rw [e] at hr; exact runLines_mono hl hr
  | some vs =>
   rw [e] at hr
   refine oneEnd_mono (by simp) (fun i r hi => ?_) hr
   simp only [List.getElem?_map] at hi ⊢
   cases e : vs[i]? with
   | none => rw [e] at hi; cases hi
   | some p =>
    rw [e] at hi
    simp only [Option.map_some,Option.some.injEq] at hi ⊢
    exact runLines_mono hl hi
theorem evStep_mono (hl : Le ih ih') : Le (evStep X hook ih) (evStep X hook ih') := by
 intro k r hk
 cases k with
 | code c rnd t d h =>
  cases c with
  | skip => exact hk
  | exit id => exact hk
  | ret => exact hk
  | label => exact hk
  | region dr ls =>
   simp only [evStep] at hk ⊢
   cases e : runRegion ih dr rnd ls t d h with
   | none => rw [e] at hk; cases hk
   | some q => rw [e] at hk; rw [runRegion_mono hl e]; exact hk
  | seq a b =>
   simp only [evStep] at hk ⊢
   cases e : ih (.code a rnd t d h) with
   | none => rw [e] at hk; cases hk
   | some q =>
    rw [e] at hk
    rw [hl _ _ e]
    cases q with
    | code ex t1 d1 h1 => cases ex <;> first | exact hl _ _ hk | exact hk
    | call v h => cases hk
    | heap h => cases hk
  | cond c a b =>
   simp only [evStep] at hk ⊢
   split at hk
   ·exact hl _ _ hk
   ·exact hl _ _ hk
   ·cases hk
  | block id body =>
   simp only [evStep] at hk ⊢
   cases e : ih (.code body rnd t d h) with
   | none => rw [e] at hk; cases hk
   | some q => rw [e] at hk; rw [hl _ _ e]; exact hk
  | loop body =>
   simp only [evStep] at hk ⊢
   cases e0 : hook (.code (.loop body) rnd t d h) with
   | some q => rw [e0] at hk; exact hk
   | none =>
    rw [e0] at hk
    simp only at hk ⊢
    cases e : ih (.code body rnd t d h) with
    | none => rw [e] at hk; cases hk
    | some q =>
     rw [e] at hk
     rw [hl _ _ e]
     cases q with
     | code ex t1 d1 h1 => cases ex <;> first | exact hl _ _ hk | exact hk
     | call v h => exact hk
     | heap h => exact hk
  | scope body => simp only [evStep] at hk ⊢; exact hl _ _ hk
  | rangeFunc f ps asg body =>
   simp only [evStep] at hk ⊢
   cases e0 : begunV rnd d h with
   | none => rw [e0] at hk; cases hk
   | some q =>
    obtain ⟨h1,d1,k1⟩ := q
    rw [e0] at hk
    simp only at hk ⊢
    cases e : applyF ih (rd t f) [.yield h1.next] (h1.push (.loop .ready none t ps asg body k1)) with
    | none => rw [e] at hk; cases hk
    | some q => rw [e] at hk; rw [applyF_mono hl e]; exact hk
 | call dk f args h =>
  simp only [evStep] at hk ⊢
  cases e0 : hook (.call dk f args h) with
  | some q => rw [e0] at hk; exact hk
  | none =>
   rw [e0] at hk
   simp only at hk ⊢
   cases e1 : X.funcs.get f with
   | none => rw [e1] at hk; cases hk
   | some fn =>
    rw [e1] at hk
    simp only at hk ⊢
    cases e : ih (.code fn.code none (argsFrom .lf 0 args) [] h) with
    | none => rw [e] at hk; cases hk
    | some q =>
     rw [e] at hk
     rw [hl _ _ e]
     cases q with
     | call v h => cases hk
     | heap h => cases hk
     | code ex t1 d1 h1 =>
      have main : (match ih (.defers d1 h1) with
        | some (.heap h) => match resultsOf t1 h fn.results with
         | some vs => some (.call (o1f vs) h)
         | none => none
        | _ => none) = some r -> (match ih' (.defers d1 h1) with
        | some (.heap h) => match resultsOf t1 h fn.results with
         | some vs => some (.call (o1f vs) h)
         | none => none
        | _ => none) = some r := by
       intro hk
       cases e3 : ih (.defers d1 h1) with
       | none => rw [e3] at hk; cases hk
       | some q => rw [e3] at hk; rw [hl _ _ e3]; exact hk
      cases ex <;> first | exact main hk | exact hk
 | defers d h =>
  simp only [evStep] at hk ⊢
  cases d with
  | nil => exact hk
  | cons x ds =>
   cases x with
   | call f args =>
    simp only at hk ⊢
    cases e : ih (.call true f args h) with
    | none => rw [e] at hk; cases hk
    | some q =>
     rw [e] at hk
     rw [hl _ _ e]
     cases q <;> first | exact hl _ _ hk | exact hk
   | collected o =>
    simp only at hk ⊢
    split at hk
    ·exact hl _ _ hk
    ·cases hk
 | round o args h =>
  simp only [evStep] at hk ⊢
  split at hk
  ·rename_i t ps asg bo _ _
   split at hk
   ·cases hk
   ·cases e : ih (.code asg (some o) (setAll t ps args) [] h) with
    | none => rw [e] at hk; cases hk
    | some q =>
     rw [e] at hk
     rw [hl _ _ e]
     split at hk
     ·split at hk
      ·split at hk
       ·rename_i e3
        rw [hl _ _ e3]
        exact hk
       ·cases hk
      ·cases hk
     ·cases hk
  ·cases hk
theorem ev_mono1 : ∀ n,Le (ev X hook n) (ev X hook (n + 1))
 | 0 => fun k o hk => by simp [ev] at hk
 | n + 1 => evStep_mono (ev_mono1 n)
theorem ev_mono {n m : Nat} (hnm : n <= m) : Le (ev X hook n) (ev X hook m) := by
 induction hnm with
 | refl => exact fun k o h => h
 | step _ ih => exact fun k o h => ev_mono1 _ _ _ (ih _ _ h)
end
section
variable (X : XProg) (hook : Task -> Option Out)
def EvCall (f : Nat) (args : List V) (h : Heap) (Q : V -> Heap -> Prop) : Prop := ∃ n v h',ev X hook n (.call false f args h) = some (.call v h') /\ Q v h'
def EvDCall (f : Nat) (args : List V) (h : Heap) (Q : Heap -> Prop) : Prop := ∃ n v h',ev X hook n (.call true f args h) = some (.call v h') /\ Q h'
def EvRound (o : Nat) (args : List V) (h : Heap) (Q : V -> Heap -> Prop) : Prop := ∃ n v h',ev X hook n (.round o args h) = some (.call v h') /\ Q v h'
def EvCode (c : XCode) (rnd : Option Nat) (t : Tr V) (d : List XDef) (h : Heap) (Q : XExit -> Tr V -> List XDef -> Heap -> Prop) : Prop := ∃ n e t' d' h',ev X hook n (.code c rnd t d h) = some (.code e t' d' h') /\ Q e t' d' h'
def EvDefers (d : List XDef) (h : Heap) (Q : Heap -> Prop) : Prop := ∃ n h',ev X hook n (.defers d h) = some (.heap h') /\ Q h'
def EvStep (s : XStep) (rnd : Option Nat) (t : Tr V) (d : List XDef) (h : Heap) (Q : V -> List XDef -> Heap -> Prop) : Prop := ∃ n v d' h',runStep (ev X hook n) s rnd t d h = some (v,d',h') /\ Q v d' h'
def EvLines (rnd : Option Nat) (ls : List XLn) (t : Tr V) (d : List XDef) (h : Heap) (Q : Tr V -> List XDef -> Heap -> Prop) : Prop := ∃ n t' d' h',runLines (ev X hook n) rnd ls t d h = some (t',d',h') /\ Q t' d' h'
def EvApply (f : V) (args : List V) (h : Heap) (Q : V -> Heap -> Prop) : Prop := ∃ n v h',applyF (ev X hook n) f args h = some (v,h') /\ Q v h'
end
end Go.Xr
namespace Go.Xr
def lenS : V -> Nat
 | .slice _ _ _ n _ => n
 | _ => 0
def objS : V -> Nat
 | .slice o _ _ _ _ => o
 | _ => 0
def genS : V -> Nat
 | .slice _ g _ _ _ => g
 | _ => 0
def offS : V -> Nat
 | .slice _ _ off _ _ => off
 | _ => 0
def nilS : V -> Bool
 | .nils => true
 | _ => false
def rowS : V -> Bool
 | .nils => true
 | .slice .. => true
 | _ => false
@[simp] theorem lenS_slice (o g off n : Nat) (c : Cap) : lenS (.slice o g off n c) = n := rfl
@[simp] theorem objS_slice (o g off n : Nat) (c : Cap) : objS (.slice o g off n c) = o := rfl
@[simp] theorem genS_slice (o g off n : Nat) (c : Cap) : genS (.slice o g off n c) = g := rfl
@[simp] theorem offS_slice (o g off n : Nat) (c : Cap) : offS (.slice o g off n c) = off := rfl
@[simp] theorem nilS_slice (o g off n : Nat) (c : Cap) : nilS (.slice o g off n c) = false := rfl
@[simp] theorem rowS_slice (o g off n : Nat) (c : Cap) : rowS (.slice o g off n c) = true := rfl
@[simp] theorem lenS_nils : lenS .nils = 0 := rfl
@[simp] theorem nilS_nils : nilS .nils = true := rfl
@[simp] theorem rowS_nils : rowS .nils = true := rfl
def xsome (r : Option (V × Heap)) (K : V -> Heap -> Prop) : Prop :=
 match r with
 | some (v,h) => K v h
 | none => False
theorem xsome_some (v : V) (h : Heap) (K : V -> Heap -> Prop) : xsome (some (v,h)) K = K v h := rfl
def XAppend (h : Heap) (e b : Nat) (v w : V) (K : V -> Heap -> Prop) : Prop := xsome (oEv (.append e b (.const v) (.const w)) (rd .lf) h) K
def XSlc (h : Heap) (e : Nat) (v : V) (lo hi mx : Option V) (K : V -> Heap -> Prop) : Prop := xsome (oEv (.slc e (.const v) (lo.map .const) (hi.map .const) (mx.map .const)) (rd .lf) h) K
def XClear (h : Heap) (zs : List V) (v : V) (K : V -> Heap -> Prop) : Prop := xsome (oEv (.clear zs (.const v)) (rd .lf) h) K
theorem slc_vals {e : Nat} {x : Opd} {lo hi mx : Option Opd} {ρ : Rd} {h : Heap} : oEv (.slc e (.const (ρ x)) ((lo.map ρ).map .const) ((hi.map ρ).map .const) ((mx.map ρ).map .const)) (rd .lf) h = oEv (.slc e x lo hi mx) ρ h := by
 cases lo <;> cases hi <;> cases mx <;> simp only [oEv,rd,Option.map_some,Option.map_none,optNat]
theorem clear_vals {zs : List V} {x : Opd} {ρ : Rd} {h : Heap} : oEv (.clear zs (.const (ρ x))) (rd .lf) h = oEv (.clear zs x) ρ h := by simp only [oEv,rd]
theorem append_vals {e b : Nat} {x y : Opd} {ρ : Rd} {h : Heap} : oEv (.append e b (.const (ρ x)) (.const (ρ y))) (rd .lf) h = oEv (.append e b x y) ρ h := by simp only [oEv,rd]
theorem xsome_out {r : Option (V × Heap)} {K : V -> Heap -> Prop} (hx : xsome r K) : ∃ v h,r = some (v,h) /\ K v h := by
 cases r with
 | none => exact hx.elim
 | some p => exact ⟨p.1,p.2,rfl,hx⟩
section
variable (X : XProg) (hook : Task -> Option Out)
def xwI (op : BinOp) (ty : Nat) (k : IntKind) (a : Int) (b : Int) (K : V -> Prop) : Prop :=
 match op with
 | .add => K (.int k (k.wrap (a + b)))
 | .sub => K (.int k (k.wrap (a - b)))
 | .mul => K (.int k (k.wrap (a * b)))
 | .eql => K (.bool (decide (a = b)))
 | .neq => K (.bool (!decide (a = b)))
 | .lss => K (.bool (decide (a < b)))
 | .leq => K (.bool (decide (a <= b)))
 | .gtr => K (.bool (decide (b < a)))
 | .geq => K (.bool (decide (b <= a)))
 | op => ∃ v,intBin op ty k a (.int k b) = some v /\ K v
def xwO (op : XOp) (rnd : Option Nat) (ρ : Rd) (d : List XDef) (h : Heap) (K : V -> List XDef -> Heap -> Prop) : Prop :=
 match op with
 | .mv x => K (ρ x) d h
 | .pick c a b => match ρ c with
  | .bool b' => K (if b' then ρ a else ρ b) d h
  | _ => False
 | .alloc zs => K (.ptr h.next 0 0) d (nCs h zs 1 false)
 | .box x => K (.ptr h.next 0 0) d (nCs h (ρ x).cellsOf 1 false)
 | .load g n x => match ρ x with
  | .ptr o gn off => ∃ vs,rCs h o gn off n = some vs /\ (match g with | true => K (.agg vs) d h | false => ∃ v,vs = [v] /\ K v d h)
  | _ => False
 | .store n x v => match ρ x with
  | .ptr o gn off => (ρ v).cellsOf.length = n /\ ∃ h',writeCells h o gn off (ρ v).cellsOf = some h' /\ K .undef d h'
  | _ => False
 | .bin op ty cls x y => match ρ x with
  | .int k a => match ρ y with
   | .int k' b => k = k' /\ xwI op ty k a b fun v => K v d h
   | _ => False
  | .bool a => match cls,op,ρ y with
   | .bool,.eql,.bool b => K (.bool (a == b)) d h
   | .bool,.neq,.bool b => K (.bool (a != b)) d h
   | _,_,_ => False
  | x => match cls,op,ρ y with
   | .slice,.eql,.nils => rowS x = true /\ K (.bool (nilS x)) d h
   | .slice,.neq,.nils => rowS x = true /\ K (.bool !(nilS x)) d h
   | _,_,y => ∃ v,binV op ty cls x y = some v /\ K v d h
 | .un op x => match ρ x with
  | .bool b => match op with
   | .not => K (.bool !b) d h
   | _ => False
  | .int k n => match op with
   | .neg => K (.int k (k.wrap (-n))) d h
   | op => ∃ v,unV op (.int k n) = some v /\ K v d h
  | x => ∃ v,unV op x = some v /\ K v d h
 | .len c x => match c with
  | .slice => rowS (ρ x) = true /\ K (.int .i64 (lenS (ρ x) : Int)) d h
  | c => ∃ v h',oEv (.len c x) ρ h = some (v,h') /\ K v d h'
 | .conv k x => match ρ x with
  | .int _ n => K (.int k (k.wrap n)) d h
  | _ => False
 | .faddr off x => match ρ x with
  | .ptr o g a => K (.ptr o g (a + off)) d h
  | _ => False
 | .iaddr esz x i => match ρ i with
  | .int _ n => (0 <= n /\ n < (lenS (ρ x) : Int)) /\ K (.ptr (objS (ρ x)) (genS (ρ x)) (offS (ρ x) + n.toNat * esz)) d h
  | _ => False
 | .extract x i => match ρ x with
  | .tup vs => ∃ v,vs[i]? = some v /\ K v d h
  | _ => False
 | .call f args => EvApply X hook (ρ f) (vals ρ args) h fun v h => K v d h
 | .invoke x rows args => ∃ n v h',invokeF (ev X hook n) (ρ x) rows (vals ρ args) h = some (v,h') /\ K v d h'
 | .defer f args => match ρ f with
  | .func f first caps => rnd = none /\ K .undef (.call f (first ++ (vals ρ args ++ caps)) :: d) h
  | _ => False
 | .next it => ∃ v h',nextEv (ρ it) h = some (v,h') /\ K v d h'
 | .append e b x y => XAppend h e b (ρ x) (ρ y) fun v h' => K v d h'
 | .slc e x lo hi mx => XSlc h e (ρ x) (lo.map ρ) (hi.map ρ) (mx.map ρ) fun v h' => K v d h'
 | .clear zs x => XClear h zs (ρ x) fun v h' => K v d h'
 | op => xsome (oEv op ρ h) fun v h' => K v d h'
def xwS (s : XStep) (rnd : Option Nat) (t : Tr V) (d : List XDef) (h : Heap) (K : V -> List XDef -> Heap -> Prop) : Prop :=
 match s.guard with
 | none => xwO X hook s.op rnd (rd t) d h K
 | some (g,want) => match sO t g with
  | .bool b => if b = want then xwO X hook s.op rnd (rd t) d h K else K .undef d h
  | .any => False
  | .hole _ => False
  | _ => K .undef d h
def xwpLines (rnd : Option Nat) : List XLn -> Tr V -> List XDef -> Heap -> (Tr V -> List XDef -> Heap -> Prop) -> Prop
 | [],t,d,h,K => K t d h
 | l :: ls,t,d,h,K => xwS X hook l.step rnd t d h fun v d h => stays (putOpt t l.step.dst v) h l.again = true /\ xwpLines rnd ls (putOpt t l.step.dst v) d h K
def xwp (rnd : Option Nat) : XCode -> Tr V -> List XDef -> Heap -> (XExit -> Tr V -> List XDef -> Heap -> Prop) -> Prop
 | .skip,t,d,h,Q => Q .normal t d h
 | .region _ ls,t,d,h,Q => xwpLines X hook rnd ls t d h fun t d h => Q .normal t d h
 | .seq a b,t,d,h,Q => xwp rnd a t d h fun e t d h => match e with
  | .normal => xwp rnd b t d h Q
  | e => Q e t d h
 | .cond c a b,t,d,h,Q => match rd t c with
  | .bool x => if x then xwp rnd a t d h Q else xwp rnd b t d h Q
  | _ => False
 | .block id body,t,d,h,Q => xwp rnd body t d h fun e t d h => match e with
  | .exit i => if i = id then Q .normal t d h else Q (.exit i) t d h
  | e => Q e t d h
 | .loop body,t,d,h,Q => EvCode X hook (.loop body) rnd t d h Q
 | .rangeFunc f ps asg body,t,d,h,Q => EvCode X hook (.rangeFunc f ps asg body) rnd t d h Q
 | .exit id,t,d,h,Q => Q (.exit id) t d h
 | .ret,t,d,h,Q => Q .ret t d h
 | .scope body,t,d,h,Q => xwp rnd body t d h Q
 | .label,t,d,h,Q => Q .normal t d h
end
section
variable {X : XProg} {hook : Task -> Option Out}
theorem xwpInt_sound {op : BinOp} {ty : Nat} {k : IntKind} {a b : Int} {K : V -> Prop} (hw : xwI op ty k a b K) : ∃ v,intBin op ty k a (.int k b) = some v /\ K v := by
 have e : (a == b) = decide (a = b) := by by_cases h : a = b <;> simp [h]
 cases op <;> simp only [xwI] at hw <;> first | exact hw | refine ⟨_,?_,hw⟩
 all_goals first | (simp [intBin,binOp,Op.intArith,pure]; done) | (simp [intBin,binOp,Op.intCmp,pure,bne,e]; done)
theorem asNat_int {k : IntKind} {n : Int} (h : 0 <= n) : asNat (.int k n) = some n.toNat := by
 cases n with
 | ofNat m => rfl
 | negSucc m => exact absurd h (by simp)
theorem xwpOp_sound {s : XStep} {rnd : Option Nat} {t : Tr V} {d : List XDef} {h : Heap} {K : V -> List XDef -> Heap -> Prop} (hg : wantedV t s.guard = some true) (hw : xwO X hook s.op rnd (rd t) d h K) : EvStep X hook s rnd t d h K := by
 have plain : ∀ {v h'},oEv s.op (rd t) h = some (v,h') -> K v d h' -> EvStep X hook s rnd t d h K := by
  intro v h' he hk
  refine ⟨0,v,d,h',?_,hk⟩
  unfold runStep
  rw [hg]
  simp only
  split
  ·rename_i e; rw [e] at he; simp [oEv] at he
  ·rename_i e; rw [e] at he; simp [oEv] at he
  ·rename_i e; rw [e] at he; simp [oEv] at he
  ·rename_i e; rw [e] at he; simp [oEv] at he
  ·rw [he]
 cases hop : s.op <;> rw [hop] at hw plain <;> simp only [xwO] at hw
 case mv x => exact plain rfl hw
 case pick c a b =>
  split at hw
  ·rename_i b' e
   cases b'
   ·exact plain (by simp [oEv,e]) hw
   ·exact plain (by simp [oEv,e]) hw
  ·exact hw.elim
 case alloc zs => exact plain rfl hw
 case box x => exact plain rfl hw
 case load g n x =>
  split at hw
  ·rename_i o gn off e
   obtain ⟨vs,h1,h2⟩ := hw
   cases g with
   | true => exact plain (by simp only [oEv,e,h1]) h2
   | false =>
    obtain ⟨v,rfl,h3⟩ := h2
    exact plain (by simp only [oEv,e,h1]) h3
  ·exact hw.elim
 case store n x v =>
  split at hw
  ·rename_i o gn off e
   obtain ⟨h1,h',h2,h3⟩ := hw
   have hb : Nat.beq (rd t v).cellsOf.length n = true := by rw [Nat.beq_eq]; exact h1
   exact plain (by simp only [oEv,e,h2,hb]) h3
  ·exact hw.elim
 case bin op ty cls x y =>
  split at hw
  ·rename_i k a e
   split at hw
   ·rename_i k' b e2
    obtain ⟨rfl,hw⟩ := hw
    obtain ⟨v,h1,h2⟩ := xwpInt_sound hw
    exact plain (by simp only [oEv,binV,e,e2,h1]) h2
   ·exact hw.elim
  ·rename_i a e
   split at hw
   ·rename_i e2
    exact plain (by simp only [oEv,binV,e,e2,boolBin]) hw
   ·rename_i e2
    exact plain (by simp only [oEv,binV,e,e2,boolBin]) hw
   ·exact hw.elim
  ·split at hw
   ·rename_i e2
    obtain ⟨h1,h2⟩ := hw
    generalize hx : rd t x = xv at h1 h2
    cases xv <;> simp only [rowS] at h1 <;> try (cases h1; done)
    ·exact plain (by simp only [oEv,binV,hx,e2,nilCmp,nilOf]; rfl) h2
    ·exact plain (by simp only [oEv,binV,hx,e2,nilCmp,nilOf]; rfl) h2
   ·rename_i e2
    obtain ⟨h1,h2⟩ := hw
    generalize hx : rd t x = xv at h1 h2
    cases xv <;> simp only [rowS] at h1 <;> try (cases h1; done)
    ·exact plain (by simp only [oEv,binV,hx,e2,nilCmp,nilOf]; rfl) h2
    ·exact plain (by simp only [oEv,binV,hx,e2,nilCmp,nilOf]; rfl) h2
   ·obtain ⟨v,h1,h2⟩ := hw
    exact plain (by simp only [oEv,h1]) h2
 case un op x =>
  split at hw
  ·rename_i b e
   split at hw
   ·exact plain (by simp only [oEv,unV,e]) hw
   ·exact hw.elim
  ·rename_i k n e
   split at hw
   ·refine plain (v := .int k (k.wrap (-n))) ?_ hw
    have : k.wrap (0 - n) = k.wrap (-n) := by rw [Int.zero_sub]
    simp only [oEv,unV,e,Op.unary,Op.intArith,pure,this]
   ·obtain ⟨v,h1,h2⟩ := hw
    exact plain (by simp only [oEv,e,h1]) h2
  ·obtain ⟨v,h1,h2⟩ := hw
   exact plain (by simp only [oEv,h1]) h2
 case len c x =>
  split at hw
  ·obtain ⟨h1,h2⟩ := hw
   generalize hx : rd t x = xv at h1 h2
   cases xv <;> simp only [rowS] at h1 <;> try (cases h1; done)
   ·exact plain (by simp only [oEv,hx]; rfl) h2
   ·exact plain (by simp only [oEv,hx]; rfl) h2
  ·obtain ⟨v,h',h1,h2⟩ := hw
   exact plain h1 h2
 case conv k x =>
  split at hw
  ·rename_i e
   exact plain (by simp only [oEv,e]) hw
  ·exact hw.elim
 case faddr off x =>
  split at hw
  ·rename_i e
   exact plain (by simp only [oEv,e]) hw
  ·exact hw.elim
 case iaddr esz x i =>
  split at hw
  ·rename_i e2
   obtain ⟨⟨h1,h2⟩,h3⟩ := hw
   generalize hx : rd t x = xv at h2 h3
   cases xv <;> simp only [lenS] at h2 <;> try (omega)
   have hb : ∀ {n : Int} {len : Nat},0 <= n -> n < len -> Nat.blt n.toNat len = true := fun _ _ => Nat.ble_eq_true_of_le (by omega)
   exact plain (by simp only [oEv,hx,e2,asNat_int h1,hb h1 h2]; rfl) h3
  ·exact hw.elim
 case extract x i =>
  split at hw
  ·rename_i e
   obtain ⟨v,h1,h2⟩ := hw
   exact plain (by simp only [oEv,e,h1]) h2
  ·exact hw.elim
 case call f args =>
  obtain ⟨n,v,h',h1,h2⟩ := hw
  refine ⟨n,v,d,h',?_,h2⟩
  unfold runStep
  rw [hg,hop]
  simp only [h1]
 case invoke x rows args =>
  obtain ⟨n,v,h',h1,h2⟩ := hw
  refine ⟨n,v,d,h',?_,h2⟩
  unfold runStep
  rw [hg,hop]
  simp only [h1]
 case defer f args =>
  split at hw
  ·rename_i e
   obtain ⟨rfl,h2⟩ := hw
   refine ⟨0,_,_,_,?_,h2⟩
   unfold runStep
   rw [hg,hop]
   simp only [e]
  ·exact hw.elim
 case next it =>
  obtain ⟨v,h',h1,h2⟩ := hw
  refine ⟨0,v,d,h',?_,h2⟩
  unfold runStep
  rw [hg,hop]
  simp only [h1]
 case append e b x y =>
  obtain ⟨v,h',h1,h2⟩ := xsome_out hw
  rw [append_vals] at h1
  exact plain h1 h2
 case slc e x lo hi mx =>
  obtain ⟨v,h',h1,h2⟩ := xsome_out hw
  rw [slc_vals] at h1
  exact plain h1 h2
 case clear zs x =>
  obtain ⟨v,h',h1,h2⟩ := xsome_out hw
  rw [clear_vals] at h1
  exact plain h1 h2
 all_goals (obtain ⟨v,h',h1,h2⟩ := xsome_out hw; exact plain h1 h2)
theorem xwpStep_sound {s : XStep} {rnd : Option Nat} {t : Tr V} {d : List XDef} {h : Heap} {K : V -> List XDef -> Heap -> Prop} (hw : xwS X hook s rnd t d h K) : EvStep X hook s rnd t d h K := by
 unfold xwS at hw
 have skip : wantedV t s.guard = some false -> K .undef d h -> EvStep X hook s rnd t d h K := fun hg hk => ⟨0,.undef,d,h,by unfold runStep; rw [hg],hk⟩
 split at hw
 ·rename_i e
  exact xwpOp_sound (by rw [e]; rfl) hw
 ·rename_i g want e
  split at hw
  ·rename_i b e2
   by_cases hb : b = want
   ·rw [if_pos hb] at hw
    exact xwpOp_sound (by rw [e]; simp [wantedV,e2,hb]) hw
   ·rw [if_neg hb] at hw
    exact skip (by rw [e]; simp [wantedV,e2,hb]) hw
  ·exact hw.elim
  ·exact hw.elim
  ·rename_i n1 n2 n3
   refine skip ?_ hw
   rw [e]
   simp only [wantedV]
theorem EvStep.mono {s : XStep} {rnd : Option Nat} {t : Tr V} {d : List XDef} {h : Heap} {K K' : V -> List XDef -> Heap -> Prop} (he : EvStep X hook s rnd t d h K) (hk : ∀ v d h,K v d h -> K' v d h) : EvStep X hook s rnd t d h K' :=
 let ⟨n,v,d',h',h1,h2⟩ := he
 ⟨n,v,d',h',h1,hk _ _ _ h2⟩
theorem xwpLines_sound {rnd : Option Nat} : ∀ {ls : List XLn} {t : Tr V} {d : List XDef} {h : Heap} {K : Tr V -> List XDef -> Heap -> Prop},xwpLines X hook rnd ls t d h K -> EvLines X hook rnd ls t d h K
 | [],t,d,h,K,hw => ⟨0,t,d,h,rfl,hw⟩
 | l :: ls,t,d,h,K,hw => by
  obtain ⟨n,v,d1,h1,e1,e2,e3⟩ := xwpStep_sound hw
  obtain ⟨m,t2,d2,h2,e4,e5⟩ := xwpLines_sound e3
  refine ⟨max n m,t2,d2,h2,?_,e5⟩
  simp only [runLines,runStep_mono (ev_mono (Nat.le_max_left n m)) e1,e2,runLines_mono (ev_mono (Nat.le_max_right n m)) e4]
theorem EvCode.mono {c : XCode} {rnd : Option Nat} {t : Tr V} {d : List XDef} {h : Heap} {Q Q' : XExit -> Tr V -> List XDef -> Heap -> Prop} (he : EvCode X hook c rnd t d h Q) (hq : ∀ e t d h,Q e t d h -> Q' e t d h) : EvCode X hook c rnd t d h Q' :=
 let ⟨n,e,t',d',h',h1,h2⟩ := he
 ⟨n,e,t',d',h',h1,hq _ _ _ _ h2⟩
theorem EvCall.mono {f : Nat} {args : List V} {h : Heap} {Q Q' : V -> Heap -> Prop} (he : EvCall X hook f args h Q) (hq : ∀ v h,Q v h -> Q' v h) : EvCall X hook f args h Q' :=
 let ⟨n,v,h',h1,h2⟩ := he
 ⟨n,v,h',h1,hq _ _ h2⟩
theorem EvRound.mono {f : Nat} {args : List V} {h : Heap} {Q Q' : V -> Heap -> Prop} (he : EvRound X hook f args h Q) (hq : ∀ v h,Q v h -> Q' v h) : EvRound X hook f args h Q' :=
 let ⟨n,v,h',h1,h2⟩ := he
 ⟨n,v,h',h1,hq _ _ h2⟩
theorem xwp_sound {rnd : Option Nat} : ∀ {c : XCode} {t : Tr V} {d : List XDef} {h : Heap} {Q : XExit -> Tr V -> List XDef -> Heap -> Prop},xwp X hook rnd c t d h Q -> EvCode X hook c rnd t d h Q
 | .skip,t,d,h,Q,hw => ⟨1,_,_,_,_,rfl,hw⟩
 | .region dr ls,t,d,h,Q,hw => by
  obtain ⟨n,t2,d2,h2,e1,e2⟩ := xwpLines_sound hw
  have e3 : runRegion (ev X hook n) dr rnd ls t d h = some (t2,d2,h2) := by
   unfold runRegion
   cases dr with
   | false => exact e1
   | true =>
    simp only
    cases e : anyOf ls with
    | none => exact e1
    | some ss =>
     exfalso
     cases ls with
     | nil => cases e
     | cons l ls =>
      have hm : isMark l = true := by
       simp only [anyOf] at e
       cases hm : isMark l with
       | true => rfl
       | false => rw [hm] at e; cases e
      obtain ⟨⟨op,dst,g⟩,ag⟩ := l
      cases op <;> try (cases hm; done)
      cases g <;> cases ag <;> try (cases hm; done)
      simp [runLines,runStep,wantedV,oEv] at e1
  exact ⟨n + 1,_,_,_,_,by simp only [ev,evStep,e3],e2⟩
 | .seq a b,t,d,h,Q,hw => by
  obtain ⟨n,e,t1,d1,h1,e1,e2⟩ := xwp_sound (c := a) hw
  cases e with
  | normal =>
   obtain ⟨m,e,t2,d2,h2,e3,e4⟩ := xwp_sound (c := b) e2
   refine ⟨max n m + 1,e,t2,d2,h2,?_,e4⟩
   simp only [ev,evStep,ev_mono (Nat.le_max_left n m) _ _ e1,ev_mono (Nat.le_max_right n m) _ _ e3]
  | exit i => exact ⟨n + 1,_,_,_,_,by simp only [ev,evStep,e1],e2⟩
  | ret => exact ⟨n + 1,_,_,_,_,by simp only [ev,evStep,e1],e2⟩
 | .cond c a b,t,d,h,Q,hw => by
  unfold xwp at hw
  split at hw
  ·rename_i x e
   cases x with
   | true =>
    obtain ⟨n,e2,t2,d2,h2,e3,e4⟩ := xwp_sound (c := a) (by simpa using hw)
    exact ⟨n + 1,_,_,_,_,by simp only [ev,evStep,e,e3],e4⟩
   | false =>
    obtain ⟨n,e2,t2,d2,h2,e3,e4⟩ := xwp_sound (c := b) (by simpa using hw)
    exact ⟨n + 1,_,_,_,_,by simp only [ev,evStep,e,e3],e4⟩
  ·exact hw.elim
 | .block id body,t,d,h,Q,hw => by
  obtain ⟨n,e,t1,d1,h1,e1,e2⟩ := xwp_sound (c := body) hw
  cases e with
  | normal => exact ⟨n + 1,_,_,_,_,by simp only [ev,evStep,e1],e2⟩
  | ret => exact ⟨n + 1,_,_,_,_,by simp only [ev,evStep,e1],e2⟩
  | exit i =>
   simp only at e2
   by_cases hi : i = id
   ·subst hi
    rw [if_pos rfl] at e2
    exact ⟨n + 1,_,_,_,_,by simp only [ev,evStep,e1,Nat.beq_refl],e2⟩
   ·rw [if_neg hi] at e2
    have hb : Nat.beq i id = false := by
     cases hb : Nat.beq i id with
     | false => rfl
     | true => exact absurd (Nat.eq_of_beq_eq_true hb) hi
    exact ⟨n + 1,_,_,_,_,by simp only [ev,evStep,e1,hb],e2⟩
 | .loop body,t,d,h,Q,hw => hw
 | .rangeFunc f ps asg body,t,d,h,Q,hw => hw
 | .exit id,t,d,h,Q,hw => ⟨1,_,_,_,_,rfl,hw⟩
 | .ret,t,d,h,Q,hw => ⟨1,_,_,_,_,rfl,hw⟩
 | .scope body,t,d,h,Q,hw => by
  obtain ⟨n,e,t1,d1,h1,e1,e2⟩ := xwp_sound (c := body) hw
  exact ⟨n + 1,_,_,_,_,by simp only [ev,evStep,e1],e2⟩
 | .label,t,d,h,Q,hw => ⟨1,_,_,_,_,rfl,hw⟩
def xres (t : Tr V) (h : Heap) : List XRes -> (List V -> Prop) -> Prop
 | [],k => k []
 | .tmp i :: r,k => xres t h r fun vs => k (sO t i :: vs)
 | .cell i g n :: r,k => match sO t i with
  | .ptr o gn off => ∃ cs,rCs h o gn off n = some cs /\ (match g with
   | true => xres t h r fun vs => k (.agg cs :: vs)
   | false => ∃ v,cs = [v] /\ xres t h r fun vs => k (v :: vs))
  | _ => False
theorem xres_sound {t : Tr V} {h : Heap} : ∀ {rs : List XRes} {k : List V -> Prop},xres t h rs k -> ∃ vs,resultsOf t h rs = some vs /\ k vs
 | [],k,hw => ⟨[],rfl,hw⟩
 | .tmp i :: r,k,hw => by
  obtain ⟨vs,h1,h2⟩ := xres_sound (rs := r) hw
  exact ⟨_,by simp only [resultsOf,h1],h2⟩
 | .cell i g n :: r,k,hw => by
  unfold xres at hw
  split at hw
  ·rename_i o gn off e
   obtain ⟨cs,h1,h2⟩ := hw
   cases g with
   | true =>
    obtain ⟨vs,h3,h4⟩ := xres_sound (rs := r) h2
    exact ⟨_,by simp only [resultsOf,oEv,rd,e,h1,h3],h4⟩
   | false =>
    obtain ⟨v,rfl,h2⟩ := h2
    obtain ⟨vs,h3,h4⟩ := xres_sound (rs := r) h2
    exact ⟨_,by simp only [resultsOf,oEv,rd,e,h1,h3],h4⟩
  ·exact hw.elim
def xfin (X : XProg) (hook : Task -> Option Out) (rs : List XRes) (Q : V -> Heap -> Prop) : XExit -> Tr V -> List XDef -> Heap -> Prop
 | .exit _,_,_,_ => False
 | _,t,d,h => EvDefers X hook d h fun h => xres t h rs fun vs => Q (o1f vs) h
theorem evCall_of {f : Nat} {fn : XFunc} {args : List V} {h : Heap} {Q : V -> Heap -> Prop} (hf : X.funcs.get f = some fn) (hh : hook (.call false f args h) = none)
  (hc : EvCode X hook fn.code none (argsFrom .lf 0 args) [] h fun e t d h => (∀ i,e ≠ .exit i) /\ EvDefers X hook d h fun h => ∃ vs,resultsOf t h fn.results = some vs /\ Q (o1f vs) h) : EvCall X hook f args h Q := by
 obtain ⟨n,e,t,d,h1,e1,e2,m,h2,e3,vs,e4,e5⟩ := hc
 refine ⟨max n m + 1,o1f vs,h2,?_,e5⟩
 simp only [ev,evStep,hh,hf,ev_mono (Nat.le_max_left n m) _ _ e1,ev_mono (Nat.le_max_right n m) _ _ e3,e4]
theorem evDefers_nil {h : Heap} {Q : Heap -> Prop} (q : Q h) : EvDefers X hook [] h Q := ⟨1,h,rfl,q⟩
@[simp] theorem evDefers_nil_iff {h : Heap} {Q : Heap -> Prop} : EvDefers X hook [] h Q ↔ Q h := by
 refine ⟨fun ⟨n,h',h1,h2⟩ => ?_,evDefers_nil⟩
 cases n with
 | zero => simp [ev] at h1
 | succ n =>
  simp [ev,evStep] at h1
  subst h1
  exact h2
theorem evCall_code {f : Nat} {fn : XFunc} {args : List V} {h : Heap} {Q : V -> Heap -> Prop} (hf : X.funcs.get f = some fn) (hh : hook (.call false f args h) = none)
  (hc : xwp X hook none fn.code (argsFrom .lf 0 args) [] h (xfin X hook fn.results Q)) : EvCall X hook f args h Q := by
 refine evCall_of hf hh ((xwp_sound hc).mono fun e t d h q => ?_)
 have main : EvDefers X hook d h (fun h => xres t h fn.results fun vs => Q (o1f vs) h) -> EvDefers X hook d h fun h => ∃ vs,resultsOf t h fn.results = some vs /\ Q (o1f vs) h :=
  fun ⟨n,h',h1,h2⟩ => ⟨n,h',h1,xres_sound h2⟩
 cases e with
 | exit i => exact q.elim
 | normal => exact ⟨(fun i q => by cases q),main q⟩
 | ret => exact ⟨(fun i q => by cases q),main q⟩
theorem evDefers_call {f : Nat} {args : List V} {ds : List XDef} {h : Heap} {Q : Heap -> Prop} (hc : EvDCall X hook f args h fun h => EvDefers X hook ds h Q) : EvDefers X hook (.call f args :: ds) h Q := by
 obtain ⟨n,v,h1,e1,m,h2,e2,e3⟩ := hc
 refine ⟨max n m + 1,h2,?_,e3⟩
 simp only [ev,evStep,ev_mono (Nat.le_max_left n m) _ _ e1,ev_mono (Nat.le_max_right n m) _ _ e2]
theorem evDCall_of {f : Nat} {fn : XFunc} {args : List V} {h : Heap} {Q : Heap -> Prop} (hf : X.funcs.get f = some fn) (hh : hook (.call true f args h) = none)
  (hc : EvCode X hook fn.code none (argsFrom .lf 0 args) [] h fun e t d h => (∀ i,e ≠ .exit i) /\ EvDefers X hook d h fun h => (∃ vs,resultsOf t h fn.results = some vs) /\ Q h) : EvDCall X hook f args h Q := by
 obtain ⟨n,e,t,d,h1,e1,e2,m,h2,e3,⟨vs,e4⟩,e5⟩ := hc
 refine ⟨max n m + 1,o1f vs,h2,?_,e5⟩
 simp only [ev,evStep,hh,hf,ev_mono (Nat.le_max_left n m) _ _ e1,ev_mono (Nat.le_max_right n m) _ _ e3,e4]
theorem evApply_func {f : Nat} {first caps args : List V} {h : Heap} {Q : V -> Heap -> Prop} (hc : EvCall X hook f (first ++ (args ++ caps)) h Q) : EvApply X hook (.func f first caps) args h Q := by
 obtain ⟨n,v,h',h1,h2⟩ := hc
 exact ⟨n,v,h',by simp only [applyF,h1],h2⟩
theorem evLoop_step {body : XCode} {rnd : Option Nat} {t : Tr V} {d : List XDef} {h : Heap} {Q : XExit -> Tr V -> List XDef -> Heap -> Prop} (hh : hook (.code (.loop body) rnd t d h) = none)
  (hc : EvCode X hook body rnd t d h fun e t d h => match e with | .normal => EvCode X hook (.loop body) rnd t d h Q | e => Q e t d h) : EvCode X hook (.loop body) rnd t d h Q := by
 obtain ⟨n,e,t1,d1,h1,e1,e2⟩ := hc
 cases e with
 | normal =>
  obtain ⟨m,e,t2,d2,h2,e3,e4⟩ := e2
  refine ⟨max n m + 1,e,t2,d2,h2,?_,e4⟩
  simp only [ev,evStep,hh,ev_mono (Nat.le_max_left n m) _ _ e1,ev_mono (Nat.le_max_right n m) _ _ e3]
 | exit i => exact ⟨n + 1,_,_,_,_,by simp only [ev,evStep,hh,e1],e2⟩
 | ret => exact ⟨n + 1,_,_,_,_,by simp only [ev,evStep,hh,e1],e2⟩
theorem evLoop {body : XCode} {rnd : Option Nat} {Q : XExit -> Tr V -> List XDef -> Heap -> Prop} (I : Nat -> Tr V -> List XDef -> Heap -> Prop) (hh : ∀ t d h,hook (.code (.loop body) rnd t d h) = none)
  (hc : ∀ n t d h,I n t d h -> xwp X hook rnd body t d h fun e t d h => match e with | .normal => ∃ m,m < n /\ I m t d h | e => Q e t d h) :
  ∀ n {t d h},I n t d h -> EvCode X hook (.loop body) rnd t d h Q := by
 intro n
 induction n using Nat.strongRecOn with
 | ind n ih =>
  intro t d h hi
  refine evLoop_step (hh t d h) ((xwp_sound (hc n t d h hi)).mono fun e t d h q => ?_)
  cases e with
  | normal => obtain ⟨m,hm,q⟩ := q; exact ih m hm q
  | exit i => exact q
  | ret => exact q
end
end Go.Xr
namespace Go.Xr
section
variable {X : XProg} {hook : Task -> Option Out}
theorem applyF_two {f : V} {args : List V} {h : Heap} {n m : Nat} {r r' : V × Heap} (h1 : applyF (ev X hook n) f args h = some r) (h2 : applyF (ev X hook m) f args h = some r') : r = r' := by
 have e1 := applyF_mono (ev_mono (Nat.le_max_left n m)) h1
 have e2 := applyF_mono (ev_mono (Nat.le_max_right n m)) h2
 rw [e1] at e2
 exact Option.some.inj e2
theorem evApply_iff {f : V} {args : List V} {h h' : Heap} {v : V} {K : V -> Heap -> Prop} (hc : EvApply X hook f args h fun v1 h1 => v1 = v /\ h1 = h') : EvApply X hook f args h K ↔ K v h' := by
 obtain ⟨n,v1,h1,e1,rfl,rfl⟩ := hc
 constructor
 ·rintro ⟨m,v2,h2,e2,hk⟩
  have := applyF_two e1 e2
  cases this
  exact hk
 ·intro hk
  exact ⟨n,v1,h1,e1,hk⟩
theorem eCi {f : Nat} {args : List V} {h h' : Heap} {v : V} {K : V -> Heap -> Prop} (hc : EvCall X hook f args h fun v1 h1 => v1 = v /\ h1 = h') : EvApply X hook (.func f [] []) args h K ↔ K v h' :=
 evApply_iff (evApply_func (by simpa using hc))
theorem EvApply.mono {f : V} {args : List V} {h : Heap} {K K' : V -> Heap -> Prop} (he : EvApply X hook f args h K) (hk : ∀ v h,K v h -> K' v h) : EvApply X hook f args h K' :=
 let ⟨n,v,h',h1,h2⟩ := he
 ⟨n,v,h',h1,hk _ _ h2⟩
theorem eAc {f : Nat} {args : List V} {h : Heap} {Q K : V -> Heap -> Prop} (hc : EvCall X hook f args h Q) (hk : ∀ v h',Q v h' -> K v h') : EvApply X hook (.func f [] []) args h K :=
 evApply_func (by simpa using hc.mono hk)
theorem xwpLines_cons {rnd : Option Nat} {op : XOp} {dst : Option Nat} {g : Option (Nat × Bool)} {ls : List XLn} {t : Tr V} {d : List XDef} {h : Heap} {K : Tr V -> List XDef -> Heap -> Prop}
  (hw : xwS X hook ⟨op,dst,g⟩ rnd t d h fun v d h => xwpLines X hook rnd ls (putOpt t dst v) d h K) : xwpLines X hook rnd (⟨⟨op,dst,g⟩,[]⟩ :: ls) t d h K := by
 simp only [xwpLines,stays,true_and]
 exact hw
theorem xwpLines_again {rnd : Option Nat} {s : XStep} {a : List XStep} {ls : List XLn} {t : Tr V} {d : List XDef} {h : Heap} {K : Tr V -> List XDef -> Heap -> Prop}
  (hw : xwS X hook s rnd t d h fun v d h => stays (putOpt t s.dst v) h a = true /\ xwpLines X hook rnd ls (putOpt t s.dst v) d h K) : xwpLines X hook rnd (⟨s,a⟩ :: ls) t d h K := by
 simp only [xwpLines]
 exact hw
end
@[simp] theorem rd_slot (t : Tr V) (i : Nat) : rd t (.slot i) = sO t i := rfl
@[simp] theorem rd_const (t : Tr V) (v : V) : rd t (.const v) = v := rfl
@[simp] theorem putOpt_some (t : Tr V) (i : Nat) (v : V) : putOpt t (some i) v = t.set i v := rfl
@[simp] theorem putOpt_none (t : Tr V) (v : V) : putOpt t none v = t := rfl
theorem slotOf_same (t : Tr V) (i : Nat) (v : V) : sO (t.set i v) i = v := by rw [sSe,if_pos rfl]
@[simp] theorem slotOf_lf (i : Nat) : sO .lf i = .undef := by unfold sO; rw [Tr.get_lf]
@[simp] theorem argsFrom_cons (t : Tr V) (i : Nat) (v : V) (vs : List V) : argsFrom t i (v :: vs) = argsFrom (t.set i v) (i + 1) vs := rfl
@[simp] theorem argsFrom_nil (t : Tr V) (i : Nat) : argsFrom t i [] = t := rfl
@[simp] theorem vals_nil (ρ : Rd) : vals ρ [] = [] := rfl
@[simp] theorem vals_cons (ρ : Rd) (x : Opd) (xs : List Opd) : vals ρ (x :: xs) = ρ x :: vals ρ xs := rfl
theorem cellsOf_agg (vs : List V) : (V.agg vs).cellsOf = vs := rfl
theorem cellsOf_int (k : IntKind) (n : Int) : (V.int k n).cellsOf = [.int k n] := rfl
theorem cellsOf_bool (b : Bool) : (V.bool b).cellsOf = [.bool b] := rfl
theorem cellsOf_ptr (o g a : Nat) : (V.ptr o g a).cellsOf = [.ptr o g a] := rfl
theorem cellsOf_map (o : Nat) : (V.map o).cellsOf = [.map o] := rfl
theorem cellsOf_nilp : V.nilp.cellsOf = [.nilp] := rfl
theorem cellsOf_func (f : Nat) (a b : List V) : (V.func f a b).cellsOf = [.func f a b] := rfl
theorem cellsOf_row {v : V} (h : rowS v = true) : v.cellsOf = [v] := by cases v <;> first | rfl | (simp [rowS] at h)
structure Ext (h h' : Heap) : Prop where
 next : h.next <= h'.next
 get : ∀ o,o < h.next -> h'.get o = h.get o
theorem Ext.refl (h : Heap) : Ext h h := ⟨Nat.le_refl _,fun _ _ => rfl⟩
theorem Ext.trans {a b c : Heap} (h1 : Ext a b) (h2 : Ext b c) : Ext a c := ⟨Nat.le_trans h1.next h2.next,fun o ho => (h2.get o (Nat.lt_of_lt_of_le ho h1.next)).trans (h1.get o ho)⟩
theorem Ext.push (h : Heap) (x : XObj) : Ext h (h.push x) := ⟨Nat.le_succ _,fun o ho => by rw [Heap.get_push,if_neg (Nat.ne_of_lt ho)]⟩
theorem Ext.new (h : Heap) (cs : List V) (esz : Nat) (spare : Bool) : Ext h (nCs h cs esz spare) := Ext.push _ _
theorem Ext.put {h h' : Heap} (he : Ext h h') {o : Nat} (x : XObj) (ho : h.next <= o) : Ext h (h'.put o x) := ⟨he.next,fun o' ho' => by rw [Heap.get_put,if_neg (by omega)]; exact he.get o' ho'⟩
def arr (cs : List V) (esz : Nat) (spare : Bool) : XObj := .cells { cs,g := 0,lens := [cs.length],ro := false,esz,spare }
theorem newCells_eq (h : Heap) (cs : List V) (esz : Nat) (spare : Bool) : nCs h cs esz spare = h.push (arr cs esz spare) := rfl
@[simp] theorem next_new (h : Heap) (cs : List V) (esz : Nat) (spare : Bool) : (nCs h cs esz spare).next = h.next + 1 := rfl
theorem get_new (h : Heap) (cs : List V) (esz : Nat) (spare : Bool) : (nCs h cs esz spare).get h.next = some (arr cs esz spare) := by rw [newCells_eq,Heap.get_push,if_pos rfl]
theorem readCells_get {h h' : Heap} {o g off n : Nat} (he : h'.get o = h.get o) : rCs h' o g off n = rCs h o g off n := by
 unfold rCs Heap.cells?
 rw [he]
theorem readCells_arr {h : Heap} {o off n : Nat} {cs : List V} {esz : Nat} {sp : Bool} (hg : h.get o = some (arr cs esz sp)) (hn : off + n <= cs.length) : rCs h o 0 off n = some ((cs.drop off).take n) := by
 unfold rCs Heap.cells?
 rw [hg]
 simp only [arr,Cells.lenOf]
 simp [Nat.ble_eq_true_of_le hn]
theorem rCl {h : Heap} {o off : Nat} {cs : List V} {v : V} {esz : Nat} {sp : Bool} (hg : h.get o = some (arr cs esz sp)) (hv : cs[off]? = some v) : rCs h o 0 off 1 = some [v] := by
 obtain ⟨hi,hv⟩ := List.getElem?_eq_some_iff.1 hv
 rw [readCells_arr hg (by omega)]
 rw [List.drop_eq_getElem_cons hi]
 simp [hv]
theorem writeCell {h : Heap} {o off : Nat} {cs : List V} {v : V} {esz : Nat} {sp : Bool} (hg : h.get o = some (arr cs esz sp)) (hi : off < cs.length) (hv : v.one = true) : writeCells h o 0 off [v] = some (h.put o (arr (cs.set off v) esz sp)) := by
 have hover : ∀ (cs : List V) (off : Nat),off < cs.length -> over cs off [v] = cs.set off v := by
  intro cs
  induction cs with
  | nil => intro off h; simp at h
  | cons c cs ih =>
   intro off h
   cases off with
   | zero => simp [over,over_nil]
   | succ off => simp only [over,List.set_cons_succ]; rw [ih off (by simpa using h)]
 unfold writeCells Heap.cells?
 rw [hg]
 simp only [arr,Nat.beq_refl]
 have : (Nat.ble (off + [v].length) cs.length && [v].all V.one) = true := by
  have : Nat.ble (off + [v].length) cs.length = true := Nat.ble_eq_true_of_le hi
  rw [this]; simp [hv]
 simp only [this,hover cs off hi,List.length_set]
def Sl (h : Heap) (v : V) (vs : List V) : Prop := (v = .nils /\ vs = []) \/ ∃ o g off cap,v = .slice o g off vs.length cap /\ (0 < vs.length -> o < h.next /\ rCs h o g off vs.length = some vs)
theorem Sl.ext {h h' : Heap} {v : V} {vs : List V} (hs : Sl h v vs) (he : Ext h h') : Sl h' v vs := by
 rcases hs with hs | ⟨o,g,off,cap,h1,h2⟩
 ·exact .inl hs
 ·exact .inr ⟨o,g,off,cap,h1,fun hp => ⟨Nat.lt_of_lt_of_le (h2 hp).1 he.next,by rw [readCells_get (he.get o (h2 hp).1)]; exact (h2 hp).2⟩⟩
theorem readCells_part {h : Heap} {o g off n i k : Nat} {vs : List V} (hr : rCs h o g off n = some vs) (hi : i + k <= n) : rCs h o g (off + i) k = some ((vs.drop i).take k) := by
 unfold rCs at hr ⊢
 cases hc : h.cells? o with
 | none => rw [hc] at hr; cases hr
 | some c =>
  rw [hc] at hr
  simp only at hr ⊢
  cases hl : c.lenOf g with
  | none => rw [hl] at hr; cases hr
  | some l =>
   rw [hl] at hr
   simp only at hr ⊢
   cases hb : Nat.ble (off + n) l with
   | false => rw [hb] at hr; cases hr
   | true =>
    rw [hb] at hr
    have hle := Nat.le_of_ble_eq_true hb
    rw [Nat.ble_eq_true_of_le (show off + i + k <= l by omega)]
    simp only [Option.some.injEq] at hr ⊢
    subst hr
    rw [List.drop_take,List.take_take,List.drop_drop,Nat.min_eq_left (by omega)]
theorem Sl.read {h : Heap} {v : V} {vs : List V} (hs : Sl h v vs) {i : Nat} {x : V} (hx : vs[i]? = some x) : ∃ o g off cap,v = .slice o g off vs.length cap /\ i < vs.length /\ rCs h o g (off + i * 1) 1 = some [x] := by
 obtain ⟨hi,hv⟩ := List.getElem?_eq_some_iff.1 hx
 rcases hs with ⟨_,rfl⟩ | ⟨o,g,off,cap,h1,h2⟩
 ·simp at hi
 ·obtain ⟨h2,h3⟩ := h2 (by omega)
  refine ⟨o,g,off,cap,h1,hi,?_⟩
  rw [Nat.mul_one,readCells_part h3 (by omega)]
  rw [List.drop_eq_getElem_cons hi]
  simp [hv]
theorem Sl.len {h : Heap} {v : V} {vs : List V} (hs : Sl h v vs) : lenS v = vs.length := by
 rcases hs with ⟨rfl,rfl⟩ | ⟨o,g,off,cap,rfl,_⟩ <;> rfl
theorem Sl.row {h : Heap} {v : V} {vs : List V} (hs : Sl h v vs) : rowS v = true := by
 rcases hs with ⟨rfl,rfl⟩ | ⟨o,g,off,cap,rfl,_⟩ <;> rfl
theorem Sl.at {h : Heap} {v : V} {vs : List V} (hs : Sl h v vs) {i : Nat} {x : V} (hx : vs[i]? = some x) : rCs h (objS v) (genS v) (offS v + i) 1 = some [x] := by
 obtain ⟨o,g,off,cap,rfl,_,h3⟩ := hs.read hx
 rw [Nat.mul_one] at h3
 exact h3
theorem wrap_i64 {n : Int} (h1 : -9223372036854775808 <= n) (h2 : n <= 9223372036854775807) : IntKind.i64.wrap n = n := by
 simp [IntKind.wrap,IntKind.bits,IntKind.signed]
 omega
theorem wrap_i32 {n : Int} (h1 : -2147483648 <= n) (h2 : n <= 2147483647) : IntKind.i32.wrap n = n := by
 simp [IntKind.wrap,IntKind.bits,IntKind.signed]
 omega
end Go.Xr
namespace Go.Xr
section
variable {X : XProg} {hook : Task -> Option Out} {rnd : Option Nat} {t : Tr V} {d : List XDef} {h : Heap}
structure WL (X : XProg) (hook : Task -> Option Out) (rnd : Option Nat) (R : List XLn) (k : Nat) (t : Tr V) (d : List XDef) (h : Heap) (K : Tr V -> List XDef -> Heap -> Prop) : Prop where
 out : xwpLines X hook rnd (R.drop k) t d h K
structure WC (X : XProg) (hook : Task -> Option Out) (rnd : Option Nat) (c : XCode) (t : Tr V) (d : List XDef) (h : Heap) (Q : XExit -> Tr V -> List XDef -> Heap -> Prop) : Prop where
 out : xwp X hook rnd c t d h Q
theorem xwpOp_mono {op : XOp} {ρ : Rd} {K K' : V -> List XDef -> Heap -> Prop} (hk : ∀ v d h,K v d h -> K' v d h) (hw : xwO X hook op rnd ρ d h K) : xwO X hook op rnd ρ d h K' := by
 cases op <;> simp only [xwO] at hw ⊢
 case mv => exact hk _ _ _ hw
 case pick => split at hw <;> first | exact hk _ _ _ hw | exact hw.elim
 case alloc => exact hk _ _ _ hw
 case box => exact hk _ _ _ hw
 case load g n x =>
  split at hw
  ·obtain ⟨vs,h1,h2⟩ := hw
   refine ⟨vs,h1,?_⟩
   cases g with
   | true => exact hk _ _ _ h2
   | false => obtain ⟨v,h3,h4⟩ := h2; exact ⟨v,h3,hk _ _ _ h4⟩
  ·exact hw
 case store =>
  split at hw
  ·obtain ⟨h1,h',h2,h3⟩ := hw; exact ⟨h1,h',h2,hk _ _ _ h3⟩
  ·exact hw
 case bin op ty cls x y =>
  split at hw
  ·split at hw
   ·obtain ⟨h1,h2⟩ := hw
    refine ⟨h1,?_⟩
    cases op <;> simp only [xwI] at h2 ⊢ <;> first | exact hk _ _ _ h2 | (obtain ⟨v,h3,h4⟩ := h2; exact ⟨v,h3,hk _ _ _ h4⟩)
   ·exact hw
  ·split at hw <;> first | exact hk _ _ _ hw | exact hw
  ·split at hw
   ·exact ⟨hw.1,hk _ _ _ hw.2⟩
   ·exact ⟨hw.1,hk _ _ _ hw.2⟩
   ·obtain ⟨v,h3,h4⟩ := hw; exact ⟨v,h3,hk _ _ _ h4⟩
 case un =>
  split at hw
  ·split at hw <;> first | exact hk _ _ _ hw | exact hw
  ·split at hw <;> first | exact hk _ _ _ hw | (obtain ⟨v,h3,h4⟩ := hw; exact ⟨v,h3,hk _ _ _ h4⟩)
  ·obtain ⟨v,h3,h4⟩ := hw; exact ⟨v,h3,hk _ _ _ h4⟩
 case conv => split at hw <;> first | exact hk _ _ _ hw | exact hw
 case faddr => split at hw <;> first | exact hk _ _ _ hw | exact hw
 case iaddr => split at hw <;> first | exact ⟨hw.1,hk _ _ _ hw.2⟩ | exact hw
 case extract => split at hw <;> first | (obtain ⟨v,h3,h4⟩ := hw; exact ⟨v,h3,hk _ _ _ h4⟩) | exact hw
 case len => split at hw <;> first | exact ⟨hw.1,hk _ _ _ hw.2⟩ | (obtain ⟨v,h',h3,h4⟩ := hw; exact ⟨v,h',h3,hk _ _ _ h4⟩)
 case call => exact hw.mono fun v h => hk v d h
 case defer => split at hw <;> first | exact ⟨hw.1,hk _ _ _ hw.2⟩ | exact hw
 case invoke => obtain ⟨n,v,h',h3,h4⟩ := hw; exact ⟨n,v,h',h3,hk _ _ _ h4⟩
 case next => obtain ⟨v,h',h3,h4⟩ := hw; exact ⟨v,h',h3,hk _ _ _ h4⟩
 case append =>
  obtain ⟨v,h',h3,h4⟩ := xsome_out hw
  unfold XAppend
  rw [h3]
  exact hk _ _ _ h4
 case slc =>
  obtain ⟨v,h',h3,h4⟩ := xsome_out hw
  unfold XSlc
  rw [h3]
  exact hk _ _ _ h4
 case clear =>
  obtain ⟨v,h',h3,h4⟩ := xsome_out hw
  unfold XClear
  rw [h3]
  exact hk _ _ _ h4
 all_goals (obtain ⟨v,h',h3,h4⟩ := xsome_out hw; rw [h3]; exact hk _ _ _ h4)
theorem xwpStep_mono {s : XStep} {K K' : V -> List XDef -> Heap -> Prop} (hk : ∀ v d h,K v d h -> K' v d h) (hw : xwS X hook s rnd t d h K) : xwS X hook s rnd t d h K' := by
 unfold xwS at hw ⊢
 split at hw
 ·exact xwpOp_mono hk hw
 ·split at hw
  ·split at hw
   ·rename_i hb; rw [if_pos hb]; exact xwpOp_mono hk hw
   ·rename_i hb; rw [if_neg hb]; exact hk _ _ _ hw
  ·exact hw
  ·exact hw
  ·exact hk _ _ _ hw
theorem xwpLines_mono : ∀ {ls : List XLn} {t : Tr V} {d : List XDef} {h : Heap} {K K' : Tr V -> List XDef -> Heap -> Prop},(∀ t d h,K t d h -> K' t d h) -> xwpLines X hook rnd ls t d h K -> xwpLines X hook rnd ls t d h K'
 | [],t,d,h,K,K',hk,hw => hk t d h hw
 | l :: ls,t,d,h,K,K',hk,hw => by
  simp only [xwpLines] at hw ⊢
  exact xwpStep_mono (fun v d h q => ⟨q.1,xwpLines_mono hk q.2⟩) hw
theorem xwp_mono : ∀ {c : XCode} {t : Tr V} {d : List XDef} {h : Heap} {Q Q' : XExit -> Tr V -> List XDef -> Heap -> Prop},(∀ e t d h,Q e t d h -> Q' e t d h) -> xwp X hook rnd c t d h Q -> xwp X hook rnd c t d h Q'
 | .skip,t,d,h,Q,Q',hq,hw => hq _ _ _ _ hw
 | .region dr ls,t,d,h,Q,Q',hq,hw => xwpLines_mono (fun t d h => hq .normal t d h) hw
 | .seq a b,t,d,h,Q,Q',hq,hw => by
  refine xwp_mono (c := a) (fun e t d h q => ?_) hw
  cases e with
  | normal => exact xwp_mono (c := b) hq q
  | exit i => exact hq _ _ _ _ q
  | ret => exact hq _ _ _ _ q
 | .cond c a b,t,d,h,Q,Q',hq,hw => by
  unfold xwp at hw ⊢
  split at hw
  ·rename_i x e
   cases x with
   | true => exact xwp_mono (c := a) hq hw
   | false => exact xwp_mono (c := b) hq hw
  ·exact hw
 | .block id body,t,d,h,Q,Q',hq,hw => by
  refine xwp_mono (c := body) (fun e t d h q => ?_) hw
  cases e with
  | normal => exact hq _ _ _ _ q
  | exit i =>
   simp only at q ⊢
   split at q
   ·rename_i hi; rw [if_pos hi]; exact hq _ _ _ _ q
   ·rename_i hi; rw [if_neg hi]; exact hq _ _ _ _ q
  | ret => exact hq _ _ _ _ q
 | .loop body,t,d,h,Q,Q',hq,hw => EvCode.mono hw hq
 | .rangeFunc f ps asg body,t,d,h,Q,Q',hq,hw => EvCode.mono hw hq
 | .exit id,t,d,h,Q,Q',hq,hw => hq _ _ _ _ hw
 | .ret,t,d,h,Q,Q',hq,hw => hq _ _ _ _ hw
 | .scope body,t,d,h,Q,Q',hq,hw => xwp_mono (c := body) hq hw
 | .label,t,d,h,Q,Q',hq,hw => hq _ _ _ _ hw
theorem s_line {R : List XLn} {k : Nat} {op : XOp} {dst : Option Nat} {g : Option (Nat × Bool)} {K : Tr V -> List XDef -> Heap -> Prop} (hl : R[k]? = some ⟨⟨op,dst,g⟩,[]⟩)
  (hw : xwS X hook ⟨op,dst,g⟩ rnd t d h fun v d h => WL X hook rnd R (k + 1) (putOpt t dst v) d h K) : WL X hook rnd R k t d h K := by
 obtain ⟨hi,he⟩ := List.getElem?_eq_some_iff.1 hl
 constructor
 rw [List.drop_eq_getElem_cons hi,he]
 exact xwpLines_cons (xwpStep_mono (fun v d h q => q.out) hw)
theorem s_again {R : List XLn} {k : Nat} {s : XStep} {a : List XStep} {K : Tr V -> List XDef -> Heap -> Prop} (hl : R[k]? = some ⟨s,a⟩)
  (hw : xwS X hook s rnd t d h fun v d h => stays (putOpt t s.dst v) h a = true /\ WL X hook rnd R (k + 1) (putOpt t s.dst v) d h K) : WL X hook rnd R k t d h K := by
 obtain ⟨hi,he⟩ := List.getElem?_eq_some_iff.1 hl
 constructor
 rw [List.drop_eq_getElem_cons hi,he]
 exact xwpLines_again (xwpStep_mono (fun v d h q => ⟨q.1,q.2.out⟩) hw)
theorem s_end {R : List XLn} {k : Nat} {K : Tr V -> List XDef -> Heap -> Prop} (hl : R[k]? = none) (hk : K t d h) : WL X hook rnd R k t d h K := by
 constructor
 rw [List.drop_eq_nil_of_le (by simpa using hl)]
 exact hk
variable {Q : XExit -> Tr V -> List XDef -> Heap -> Prop}
theorem s_region {dr : Bool} {R : List XLn} (hw : WL X hook rnd R 0 t d h fun t d h => Q .normal t d h) : WC X hook rnd (.region dr R) t d h Q := ⟨by
 have := hw.out
 rw [List.drop_zero] at this
 exact this⟩
def andThen (Q Q' : XExit -> Tr V -> List XDef -> Heap -> Prop) : XExit -> Tr V -> List XDef -> Heap -> Prop
 | .normal => Q .normal
 | e => Q' e
theorem andThen_normal (Q Q' : XExit -> Tr V -> List XDef -> Heap -> Prop) : andThen Q Q' .normal t d h = Q .normal t d h := rfl
theorem andThen_exit (Q Q' : XExit -> Tr V -> List XDef -> Heap -> Prop) (i : Nat) : andThen Q Q' (.exit i) t d h = Q' (.exit i) t d h := rfl
theorem andThen_ret (Q Q' : XExit -> Tr V -> List XDef -> Heap -> Prop) : andThen Q Q' .ret t d h = Q' .ret t d h := rfl
theorem s_seq {a b : XCode} (hw : WC X hook rnd a t d h (andThen (fun _ t d h => WC X hook rnd b t d h Q) Q)) : WC X hook rnd (.seq a b) t d h Q := ⟨by
 refine xwp_mono (c := a) (fun e t d h q => ?_) hw.out
 cases e with
 | normal => exact WC.out q
 | exit i => exact q
 | ret => exact q⟩
def outOf (id : Nat) (Q : XExit -> Tr V -> List XDef -> Heap -> Prop) : XExit -> Tr V -> List XDef -> Heap -> Prop
 | .exit i,t,d,h => if i = id then Q .normal t d h else Q (.exit i) t d h
 | e,t,d,h => Q e t d h
theorem outOf_normal (id : Nat) : outOf id Q .normal t d h = Q .normal t d h := rfl
theorem outOf_exit (id i : Nat) : outOf id Q (.exit i) t d h = if i = id then Q .normal t d h else Q (.exit i) t d h := rfl
theorem outOf_ret (id : Nat) : outOf id Q .ret t d h = Q .ret t d h := rfl
theorem s_block {id : Nat} {body : XCode} (hw : WC X hook rnd body t d h (outOf id Q)) : WC X hook rnd (.block id body) t d h Q := ⟨by
 refine xwp_mono (c := body) (fun e t d h q => ?_) hw.out
 cases e <;> exact q⟩
theorem s_skip (hw : Q .normal t d h) : WC X hook rnd .skip t d h Q := ⟨hw⟩
theorem s_ret (hw : Q .ret t d h) : WC X hook rnd .ret t d h Q := ⟨hw⟩
theorem s_exit {i : Nat} (hw : Q (.exit i) t d h) : WC X hook rnd (.exit i) t d h Q := ⟨hw⟩
def condB (v : V) (A B : Prop) : Prop :=
 match v with
 | .bool true => A
 | .bool false => B
 | _ => False
theorem s_cond {c : Opd} {a b : XCode} (hw : condB (rd t c) (WC X hook rnd a t d h Q) (WC X hook rnd b t d h Q)) : WC X hook rnd (.cond c a b) t d h Q := ⟨by
 simp only [xwp]
 unfold condB at hw
 split at hw
 ·rename_i e; rw [e]; exact hw.out
 ·rename_i e; rw [e]; exact hw.out
 ·exact hw.elim⟩
theorem cBo {b : Bool} {A B : Prop} (h1 : b = true -> A) (h2 : b = false -> B) : condB (.bool b) A B := by
 cases b
 ·exact h2 rfl
 ·exact h1 rfl
theorem cBd {p : Prop} [Decidable p] {A B : Prop} (h1 : p -> A) (h2 : ¬ p -> B) : condB (.bool (decide p)) A B := by
 by_cases hp : p
 ·rw [decide_eq_true hp]; exact h1 hp
 ·rw [decide_eq_false hp]; exact h2 hp
theorem condB_true {A B : Prop} : condB (.bool true) A B = A := rfl
theorem condB_false {A B : Prop} : condB (.bool false) A B = B := rfl
theorem s_loop {body : XCode} (hw : EvCode X hook (.loop body) rnd t d h Q) : WC X hook rnd (.loop body) t d h Q := ⟨hw⟩
theorem s_if {p : Prop} [Decidable p] {A B : Prop} (h1 : p -> A) (h2 : ¬ p -> B) : if p then A else B := by
 by_cases hp : p
 ·rw [if_pos hp]; exact h1 hp
 ·rw [if_neg hp]; exact h2 hp
theorem xfin_ret {rs : List XRes} {Q : V -> Heap -> Prop} : xfin X hook rs Q .ret t [] h ↔ xres t h rs fun vs => Q (o1f vs) h := by
 show EvDefers X hook [] h _ ↔ _
 simp
theorem xfin_normal {rs : List XRes} {Q : V -> Heap -> Prop} : xfin X hook rs Q .normal t [] h ↔ xres t h rs fun vs => Q (o1f vs) h := by
 show EvDefers X hook [] h _ ↔ _
 simp
theorem s_lelt {a b c d : Int} {p : Prop} (h : a <= b /\ c < d) (hp : p) : (a <= b /\ c < d) /\ p := ⟨h,hp⟩
theorem s_lt {a b : Int} {p : Prop} (h : a < b) (hp : p) : a < b /\ p := ⟨h,hp⟩
theorem s_le {a b : Int} {p : Prop} (h : a <= b) (hp : p) : a <= b /\ p := ⟨h,hp⟩
theorem s_call {f : Nat} {fn : XFunc} {args : List V} {Q : V -> Heap -> Prop} (hf : X.funcs.get f = some fn) (hh : hook (.call false f args h) = none)
  (hc : WC X hook none fn.code (argsFrom .lf 0 args) [] h (xfin X hook fn.results Q)) : EvCall X hook f args h Q := evCall_code hf hh hc.out
theorem s_while {body : XCode} (I : Nat -> Tr V -> List XDef -> Heap -> Prop) (hh : ∀ t d h,hook (.code (.loop body) rnd t d h) = none)
  (n : Nat) (hi : I n t d h) (hc : ∀ n t d h,I n t d h -> WC X hook rnd body t d h (andThen (fun _ t d h => ∃ m,m < n /\ I m t d h) Q)) : WC X hook rnd (.loop body) t d h Q :=
 ⟨evLoop I hh (fun n t d h hi => xwp_mono (fun e t d h q => by cases e <;> exact q) (hc n t d h hi).out) n hi⟩
end
end Go.Xr
namespace Go.Xr
def grownObj (xs : List V) (g : Nat) (r : List Nat) (sp : Nat) : XObj := .cells { cs := xs,g,lens := xs.length :: r,ro := false,esz := sp,spare := true }
def Gr (h : Heap) (v : V) (xs : List V) : Prop := (v = .nils /\ xs = []) \/ ∃ o g r,v = .slice o g 0 xs.length (.rest 0 1) /\ o < h.next /\ h.get o = some (grownObj xs g r 1)
def Gr.own (v : V) (o : Nat) : Prop := objS v = o /\ v ≠ .nils
theorem Gr.nil (h : Heap) : Gr h .nils [] := .inl ⟨rfl,rfl⟩
theorem Gr.len {h : Heap} {v : V} {xs : List V} (hs : Gr h v xs) : lenS v = xs.length := by
 rcases hs with ⟨rfl,rfl⟩ | ⟨o,g,r,rfl,_⟩ <;> rfl
theorem Gr.row {h : Heap} {v : V} {xs : List V} (hs : Gr h v xs) : rowS v = true := by
 rcases hs with ⟨rfl,rfl⟩ | ⟨o,g,r,rfl,_⟩ <;> rfl
theorem readCells_grown {h : Heap} {o g : Nat} {r : List Nat} {xs : List V} (hg : h.get o = some (grownObj xs g r 1)) {off n : Nat} (hn : off + n <= xs.length) : rCs h o g off n = some ((xs.drop off).take n) := by
 unfold rCs Heap.cells?
 rw [hg]
 simp only [grownObj]
 rw [show ({ cs := xs,g := g,lens := xs.length :: r,ro := false,esz := 1,spare := true } : Cells).lenOf g = some xs.length from lenOf_last rfl]
 simp [Nat.ble_eq_true_of_le hn]
theorem Gr.sl {h : Heap} {v : V} {xs : List V} (hs : Gr h v xs) : Sl h v xs := by
 rcases hs with ⟨rfl,rfl⟩ | ⟨o,g,r,rfl,hlt,hg⟩
 ·exact .inl ⟨rfl,rfl⟩
 ·exact .inr ⟨o,g,0,_,rfl,fun _ => ⟨hlt,by rw [readCells_grown hg (by omega)]; simp⟩⟩
theorem Gr.frame {h h' : Heap} {v : V} {xs : List V} (hs : Gr h v xs) (hn : h.next <= h'.next) (hg : ∀ o,v ≠ .nils -> objS v = o -> h'.get o = h.get o) : Gr h' v xs := by
 rcases hs with hs | ⟨o,g,r,rfl,hlt,hgo⟩
 ·exact .inl hs
 ·exact .inr ⟨o,g,r,rfl,Nat.lt_of_lt_of_le hlt hn,by rw [hg o (by simp) rfl]; exact hgo⟩
structure But (S : Nat -> Prop) (h h' : Heap) : Prop where
 next : h.next <= h'.next
 get : ∀ o,o < h.next -> ¬ S o -> h'.get o = h.get o
theorem But.refl (S : Nat -> Prop) (h : Heap) : But S h h := ⟨Nat.le_refl _,fun _ _ _ => rfl⟩
theorem But.trans {S : Nat -> Prop} {a b c : Heap} (h1 : But S a b) (h2 : But S b c) : But S a c := ⟨Nat.le_trans h1.next h2.next,fun o ho hs => (h2.get o (Nat.lt_of_lt_of_le ho h1.next) hs).trans (h1.get o ho hs)⟩
theorem But.mono {S T : Nat -> Prop} {a b : Heap} (h : But S a b) (hs : ∀ o,o < a.next -> S o -> T o) : But T a b := ⟨h.next,fun o ho ht => h.get o ho fun q => ht (hs o ho q)⟩
theorem But.ext {S : Nat -> Prop} {a b : Heap} (h : But S a b) (hs : ∀ o,o < a.next -> ¬ S o) : Ext a b := ⟨h.next,fun o ho => h.get o ho (hs o ho)⟩
theorem Ext.but {a b : Heap} (S : Nat -> Prop) (h : Ext a b) : But S a b := ⟨h.next,fun o ho _ => h.get o ho⟩
theorem over_all : ∀ {cs vs : List V},cs.length = vs.length -> over cs 0 vs = vs
 | [],[],_ => rfl
 | c :: cs,v :: vs,h => by
  simp only [over]
  rw [over_all (by simpa using h)]
theorem writeCells_grown {h : Heap} {o g : Nat} {r : List Nat} {xs ys : List V} (hg : h.get o = some (grownObj xs g r 1)) (hl : xs.length = ys.length) (h1 : ys.all V.one = true) : writeCells h o g 0 ys = some (h.put o (grownObj ys g [] 1)) := by
 unfold writeCells Heap.cells?
 rw [hg]
 simp only [grownObj,Nat.beq_refl]
 have : (Nat.ble (0 + ys.length) ys.length && ys.all V.one) = true := by
  rw [h1,Bool.and_true]
  exact Nat.ble_eq_true_of_le (by omega)
 simp only [over_all hl,hl,this]
theorem x_append_new {h : Heap} {o g off : Nat} {w : V} {ys : List V} {bytes : Nat} {K : V -> Heap -> Prop} (hw : Sl h w ys) (hc : ∃ x,h.get o = some (.cells x) /\ ∃ L,x.lenOf g = some L /\ off <= L) (hb : ys.length * bytes <= 140737488355328)
  (h0 : ys = [] -> K (.slice o g off 0 (.exact 0)) h) (h2 : ys ≠ [] -> K (.slice h.next 0 0 ys.length (.rest 0 1)) (h.push (grownObj ys 0 [] 1))) : XAppend h 1 bytes (.slice o g off 0 (.exact 0)) w K := by
 have hlen : lenV w = some ys.length := by
  rcases hw with ⟨rfl,rfl⟩ | ⟨o,g,off,cap,rfl,_⟩ <;> rfl
 have hel : elemsOf h 1 ys.length w = some ys := by
  rcases hw with ⟨rfl,rfl⟩ | ⟨o,g,off,cap,rfl,q⟩
  ·rfl
  ·cases ys with
   | nil => rfl
   | cons a r => simpa [elemsOf] using (q (by simp)).2
 have happ : oEv (.append 1 bytes (.const (.slice o g off 0 (.exact 0))) (.const w)) (rd .lf) h = appendV h 1 bytes (.slice o g off 0 (.exact 0)) ys ys.length := by
  simp only [oEv,rd,hlen,hel,Nat.mul_one,Nat.beq_refl]
 unfold XAppend
 rw [happ]
 unfold appendV
 cases hys : ys.length with
 | zero =>
  have := List.eq_nil_of_length_eq_zero hys
  subst this
  exact h0 rfl
 | succ k =>
  have hne : ys ≠ [] := by rintro rfl; simp at hys
  have hbound : Nat.ble ((k + 1) * bytes) 140737488355328 = true := by
   rw [<- hys]
   exact Nat.ble_eq_true_of_le hb
  have hno : Nat.ble (k + 1) 0 = false := rfl
  obtain ⟨x,hx,L,hL,hle⟩ := hc
  have hrd : rCs h o g off (0 * 1) = some [] := by
   unfold rCs Heap.cells?
   rw [hx]
   simp only [hL]
   simp [Nat.ble_eq_true_of_le hle]
  simp only [Nat.zero_add,hno,hrd,hbound,List.nil_append]
  have := h2 hne
  rw [hys] at this
  exact this
theorem x_slc_lo {h : Heap} {o g off len n : Nat} {k : IntKind} {i : Int} {K : V -> Heap -> Prop} (h0 : 0 <= i) (h1 : i <= len) (hk : K (.slice o g (off + i.toNat) (len - i.toNat) (.rest (n + i.toNat) 1)) h) : XSlc h 1 (.slice o g off len (.rest n 1)) (some (.int k i)) none none K := by
 have e : oEv (.slc 1 (.const (.slice o g off len (.rest n 1))) (some (.const (.int k i))) none none) (rd .lf) h = some (.slice o g (off + i.toNat) (len - i.toNat) (.rest (n + i.toNat) 1),h) := by
  have c1 : Nat.ble i.toNat len = true := Nat.ble_eq_true_of_le (by omega)
  simp only [oEv,optNat,rd,asNat_int h0,sliceV,Option.getD_some,Option.getD_none,c1,Nat.beq_refl,Bool.and_self,Nat.ble_eq_true_of_le (Nat.le_refl len),Bool.true_or,Nat.mul_one]
 unfold XSlc
 simp only [Option.map_some,Option.map_none]
 rw [e]
 exact hk
theorem x_slc_hi {h : Heap} {o g off len n : Nat} {k : IntKind} {i : Int} {K : V -> Heap -> Prop} (h0 : 0 <= i) (h1 : i <= len) (hk : K (.slice o g off i.toNat (.rest n 1)) h) : XSlc h 1 (.slice o g off len (.rest n 1)) none (some (.int k i)) none K := by
 have e : oEv (.slc 1 (.const (.slice o g off len (.rest n 1))) none (some (.const (.int k i))) none) (rd .lf) h = some (.slice o g off i.toNat (.rest n 1),h) := by
  have c1 : Nat.ble i.toNat len = true := Nat.ble_eq_true_of_le (by omega)
  have c2 : Nat.ble 0 i.toNat = true := Nat.ble_eq_true_of_le (Nat.zero_le _)
  simp only [oEv,optNat,rd,asNat_int h0,sliceV,Option.getD_some,Option.getD_none,c1,c2,Nat.beq_refl,Bool.and_self,Bool.true_or,Nat.mul_one,Nat.add_zero,Nat.sub_zero]
 unfold XSlc
 simp only [Option.map_some,Option.map_none]
 rw [e]
 exact hk
theorem x_slc_clip {h : Heap} {o g off len n : Nat} {k k' : IntKind} {K : V -> Heap -> Prop} (hk : K (.slice o g off len (.exact len)) h) : XSlc h 1 (.slice o g off len (.rest n 1)) none (some (.int k len)) (some (.int k' len)) K := by
 have e : oEv (.slc 1 (.const (.slice o g off len (.rest n 1))) none (some (.const (.int k len))) (some (.const (.int k' len)))) (rd .lf) h = some (.slice o g off len (.exact len),h) := by
  have c1 : Nat.ble len len = true := Nat.ble_eq_true_of_le (Nat.le_refl _)
  have c2 : Nat.ble 0 len = true := Nat.ble_eq_true_of_le (Nat.zero_le _)
  simp only [oEv,optNat,rd,asNat_int (Int.natCast_nonneg len),Int.toNat_natCast,sliceV,Option.getD_some,Option.getD_none,c1,c2,Nat.beq_refl,Bool.and_self,Nat.sub_zero]
  cases Nat.beq len 0 <;> simp
 unfold XSlc
 simp only [Option.map_some]
 simp only [Option.map_none]
 rw [e]
 exact hk
theorem x_slc_empty {h : Heap} {o g off : Nat} {k k' : IntKind} {K : V -> Heap -> Prop} (hk : K (.slice o g off 0 (.exact 0)) h) : XSlc h 1 (.slice o g off 0 (.exact 0)) none (some (.int k 0)) (some (.int k' 0)) K := by
 have e : oEv (.slc 1 (.const (.slice o g off 0 (.exact 0))) none (some (.const (.int k 0))) (some (.const (.int k' 0)))) (rd .lf) h = some (.slice o g off 0 (.exact 0),h) := rfl
 unfold XSlc
 simp only [Option.map_some,Option.map_none]
 rw [e]
 exact hk
theorem x_slc_nil {h : Heap} {k k' : IntKind} {K : V -> Heap -> Prop} (hk : K .nils h) : XSlc h 1 .nils none (some (.int k 0)) (some (.int k' 0)) K := by
 have e : oEv (.slc 1 (.const .nils) none (some (.const (.int k 0))) (some (.const (.int k' 0)))) (rd .lf) h = some (.nils,h) := rfl
 unfold XSlc
 simp only [Option.map_some,Option.map_none]
 rw [e]
 exact hk
theorem x_clear {h : Heap} {zs : List V} {o g off len : Nat} {cap : Cap} {K : V -> Heap -> Prop} (h0 : len = 0 -> K .undef h) (h1 : 0 < len -> ∃ h',writeCells h o g off (repl len zs) = some h' /\ K .undef h') : XClear h zs (.slice o g off len cap) K := by
 unfold XClear
 cases len with
 | zero => exact h0 rfl
 | succ n =>
  obtain ⟨h',e,hk⟩ := h1 (Nat.succ_pos _)
  simp only [oEv,rd,e]
  exact hk
theorem over_one : ∀ {cs : List V} {k : Nat} {v : V},k < cs.length -> over cs k [v] = cs.set k v
 | [],k,v,h => by simp at h
 | c :: cs,0,v,h => by simp [over,over_nil]
 | c :: cs,k + 1,v,h => by simp only [over,List.set_cons_succ]; rw [over_one (by simpa using h)]
theorem writeCell_grown {h : Heap} {o g : Nat} {r : List Nat} {cs : List V} (hg : h.get o = some (grownObj cs g r 1)) {k : Nat} {v : V} (hk : k < cs.length) (h1 : v.one = true) : writeCells h o g k [v] = some (h.put o (grownObj (cs.set k v) g [] 1)) := by
 unfold writeCells Heap.cells?
 rw [hg]
 simp only [grownObj,Nat.beq_refl]
 have : (Nat.ble (k + [v].length) cs.length && [v].all V.one) = true := by
  rw [show [v].all V.one = true by simp [h1],Bool.and_true]
  exact Nat.ble_eq_true_of_le (by simp; omega)
 simp only [this,over_one hk,List.length_set]
theorem over_tail : ∀ {cs vs : List V} {k : Nat},k + vs.length = cs.length -> over cs k vs = cs.take k ++ vs
 | cs,vs,0,h => by
  have h : cs.length = vs.length := by omega
  rw [over_all h]
  rfl
 | [],vs,k + 1,h => by simp at h
 | c :: cs,[],k + 1,h => by
  simp at h
  rw [over_nil,List.append_nil,List.take_of_length_le (by simp; omega)]
 | c :: cs,v :: vs,k + 1,h => by
  have h' : k + (v :: vs).length = cs.length := by simp at h ⊢; omega
  simp only [over,List.take_succ_cons,List.cons_append]
  rw [over_tail h']
theorem writeTail_grown {h : Heap} {o g : Nat} {r : List Nat} {cs vs : List V} (hg : h.get o = some (grownObj cs g r 1)) {k : Nat} (hk : k + vs.length = cs.length) (h1 : vs.all V.one = true) : writeCells h o g k vs = some (h.put o (grownObj (cs.take k ++ vs) g [] 1)) := by
 unfold writeCells Heap.cells?
 rw [hg]
 simp only [grownObj,Nat.beq_refl]
 have : (Nat.ble (k + vs.length) cs.length && vs.all V.one) = true := by
  rw [h1,Bool.and_true]
  exact Nat.ble_eq_true_of_le (by omega)
 have hl : (cs.take k ++ vs).length = cs.length := by simp; omega
 simp only [this,over_tail hk,hl]
end Go.Xr
namespace Go.Xr
open Go.RowKit
def mu0 (n : Nat) : Mu := fun o g => if o < n /\ g = 0 then some ⟨o,0,0,1⟩ else none
theorem mu0_some {n o : Nat} (h : o < n) : mu0 n o 0 = some ⟨o,0,0,1⟩ := if_pos ⟨h,rfl⟩
theorem mu0_inv {n o g : Nat} {l : Loc} (h : mu0 n o g = some l) : o < n /\ g = 0 /\ l = ⟨o,0,0,1⟩ := by
 unfold mu0 at h
 by_cases e : o < n /\ g = 0
 ·rw [if_pos e] at h; cases h; exact ⟨e.1,e.2,rfl⟩
 ·rw [if_neg e] at h; cases h
theorem VRs_of_all {μ : Mu} : ∀ {xs : List Value},(∀ x ∈ xs, ∃ v,VR μ v x) -> ∃ vs,VRs μ vs xs
 | [],_ => ⟨[],.nil⟩
 | x :: xs,h => by
  obtain ⟨v,hv⟩ := h x List.mem_cons_self
  obtain ⟨vs,hvs⟩ := VRs_of_all fun y hy => h y (List.mem_cons_of_mem _ hy)
  exact ⟨v :: vs,.cons hv hvs⟩
theorem exists_VR {μ : Mu} : ∀ (m : Nat) (x : Value),_root_.SizeOf.sizeOf x <= m -> ∃ v,VR μ v x
 | 0,x,h => by cases x <;> simp at h
 | m + 1,x,h => by
  cases x with
  | agg cs =>
   obtain ⟨vs,hvs⟩ := VRs_of_all (μ := μ) (xs := cs.toList) fun y hy => exists_VR m y (by
    have := Array.sizeOf_lt_of_mem (Array.mem_def.2 hy)
    simp at h
    omega)
   exact ⟨.agg vs,by simpa using VR.agg hvs⟩
  | _ => exact ⟨.any,.any rfl⟩
open Classical in
noncomputable def tr (n : Nat) : Value -> V
 | .int k m => .int k m
 | .bool b => .bool b
 | .string s => .str s
 | .nilIface => .nili
 | .slice none 0 0 => .nils
 | .slice (some a) len cap => if a.spot = none /\ a.block < n /\ len <= cap then .slice a.block 0 a.off len (.exact cap) else if len = 0 /\ cap = 0 then .slice 0 0 0 0 (.exact 0) else .any
 | .agg cs => if h : ∃ v,VR (mu0 n) v (.agg cs) then h.choose else .any
 | _ => .any
theorem tr_slice (n : Nat) (a : Addr) (len cap : Nat) : tr n (.slice (some a) len cap) = if a.spot = none /\ a.block < n /\ len <= cap then .slice a.block 0 a.off len (.exact cap) else if len = 0 /\ cap = 0 then .slice 0 0 0 0 (.exact 0) else .any := by
 simp only [tr]
theorem tr_nil (n : Nat) : tr n (.slice none 0 0) = .nils := by simp only [tr]
theorem tr_VR {n : Nat} (hn : 0 < n) (x : Value) : VR (mu0 n) (tr n x) x := by
 unfold tr
 split
 ·exact .int ..
 ·exact .bool ..
 ·exact .str ..
 ·exact .nili
 ·exact .nils
 ·rename_i a len cap
  split
  ·rename_i h
   obtain ⟨h1,h2,h3⟩ := h
   refine .exact (mu0_some h2) a (.inl ?_) h3
   cases a
   simp only at h1
   subst h1
   simp
  ·split
   ·rename_i h
    obtain ⟨rfl,rfl⟩ := h
    exact .exact (mu0_some hn) a (.inr ⟨rfl,rfl⟩) (Nat.le_refl 0)
   ·exact .any rfl
 ·rename_i cs
  have : ∃ v,VR (mu0 n) v (.agg cs) := exists_VR _ _ (Nat.le_refl _)
  rw [dif_pos this]
  exact this.choose_spec
 ·rename_i h1 h2 h3 h4 h5 h6 h7
  cases x with
  | agg cs => exact absurd rfl (h7 cs)
  | _ => exact .any rfl
noncomputable def objOf (n : Nat) : Option Obj -> XObj
 | some (.cells a _ _) => .cells { cs := a.toList.map (tr n),g := 0,lens := [a.size],ro := true,esz := 1,spare := false }
 | _ => .dead false
noncomputable def heapOf (f : Nat -> XObj) : Nat -> Heap
 | 0 => ⟨.lf,0⟩
 | n + 1 => (heapOf f n).push (f n)
theorem heapOf_next (f : Nat -> XObj) : ∀ n,(heapOf f n).next = n
 | 0 => rfl
 | n + 1 => by show (heapOf f n).next + 1 = _; rw [heapOf_next f n]
theorem heapOf_get (f : Nat -> XObj) : ∀ n o,(heapOf f n).get o = if o < n then some (f o) else none
 | 0,o => by rw [if_neg (Nat.not_lt_zero o)]; exact Tr.get_lf o
 | n + 1,o => by
  show ((heapOf f n).push (f n)).get o = _
  rw [Heap.get_push,heapOf_next,heapOf_get f n]
  by_cases e : o = n
  ·subst e; rw [if_pos rfl,if_pos (Nat.lt_succ_self o)]
  ·rw [if_neg e]
   by_cases e2 : o < n
   ·rw [if_pos e2,if_pos (by omega)]
   ·rw [if_neg e2,if_neg (by omega)]
noncomputable def first (w : World) : Heap := heapOf (fun b => objOf w.heap.size w.heap[b]?) w.heap.size
theorem first_next (w : World) : (first w).next = w.heap.size := heapOf_next _ _
theorem first_get (w : World) (o : Nat) : (first w).get o = if o < w.heap.size then some (objOf w.heap.size w.heap[o]?) else none := heapOf_get _ _ _
theorem first_cells {w : World} {b : Nat} {a : Array Value} {t : TypeId} {fz : Nat × Nat} (h : w.heap[b]? = some (.cells a t fz)) :
  (first w).get b = some (.cells { cs := a.toList.map (tr w.heap.size),g := 0,lens := [a.size],ro := true,esz := 1,spare := false }) := by
 have hb := (Array.getElem?_eq_some_iff.1 h).1
 rw [first_get,if_pos hb,h]
 rfl
theorem objOf_live {n : Nat} {x : Option Obj} {g : Nat} (h : LiveX (objOf n x) g) : ∃ a t fz,x = some (.cells a t fz) /\ g = 0 := by
 unfold objOf at h
 split at h
 ·rename_i a t fz
  obtain ⟨L,hL⟩ := h
  exact ⟨a,t,fz,rfl,(lenOf_only rfl hL).1⟩
 ·exact h.elim
theorem first_rel [RoLim] {P : Program} (w : World) (hlim : RoLim.lim = w.heap.size) : Rel P (fun b => b < w.heap.size) w (mu0 w.heap.size) (first w) w := by
 have hget : ∀ o x,(first w).get o = some x -> o < w.heap.size /\ x = objOf w.heap.size w.heap[o]? := by
  intro o x h
  rw [first_get] at h
  by_cases e : o < w.heap.size
  ·rw [if_pos e] at h; cases h; exact ⟨e,rfl⟩
  ·rw [if_neg e] at h; cases h
 have hlive : ∀ o g,Live (first w) o g -> o < w.heap.size /\ g = 0 /\ ∃ a t fz,w.heap[o]? = some (.cells a t fz) := by
  intro o g ⟨x,hx,hl⟩
  obtain ⟨h1,rfl⟩ := hget o x hx
  obtain ⟨a,t,fz,h2,h3⟩ := objOf_live hl
  exact ⟨h1,h3,a,t,fz,h2⟩
 refine ⟨fun o g l hm => ?_,fun o g l x hm hx => ?_,fun o x hx => ?_,fun o mo ins seen cur kd es ins' h1 h2 => ?_,fun o g l o' g' l' hl hl' hm hm' e => ?_,fun o g l hl hm => ?_,fun b hb => ⟨hb,rfl⟩,rfl,rfl,rfl,Nat.le_refl _,Nat.le_of_eq hlim⟩
 ·obtain ⟨h1,_,rfl⟩ := mu0_inv hm
  rw [first_next]
  exact ⟨h1,h1⟩
 ·obtain ⟨_,rfl,_⟩ := mu0_inv hm
  obtain ⟨_,rfl⟩ := hget o x hx
  unfold objOf
  split
  ·exact Nat.le_refl 0
  ·rfl
 ·obtain ⟨hb,rfl⟩ := hget o x hx
  rw [first_next]
  refine ⟨hb,?_⟩
  have hn : 0 < w.heap.size := by omega
  unfold objOf
  split
  ·rename_i a t fz e
   refine ⟨fun g L hL => ?_,by simp,fun g g' L L' l l' hL hL' m m' _ => ?_⟩
   ·obtain ⟨rfl,rfl⟩ := lenOf_only rfl hL
    refine ⟨⟨o,0,0,1⟩,a,t,fz,mu0_some hb,rfl,e,(fun h => by cases h),(by simp),(fun i v hi hv => ?_),(fun _ h => by cases h),(fun _ => rfl)⟩
    simp only [List.getElem?_map,Array.getElem?_toList] at hv
    cases ha : a[i]? with
    | none => rw [ha] at hv; cases hv
    | some x =>
     rw [ha] at hv
     simp only [Option.map_some,Option.some.injEq] at hv
     subst hv
     exact ⟨x,by simpa using ha,tr_VR hn x⟩
   ·obtain ⟨rfl,_⟩ := lenOf_only rfl hL
    obtain ⟨rfl,_⟩ := lenOf_only rfl hL'
    rw [m] at m'
    cases m'
    rfl
  ·trivial
 ·obtain ⟨_,e⟩ := hget o _ h1
  unfold objOf at e
  split at e <;> cases e
 ·obtain ⟨_,rfl,rfl⟩ := mu0_inv hm
  obtain ⟨_,rfl,rfl⟩ := mu0_inv hm'
  exact .inl e
 ·obtain ⟨h1,rfl,rfl⟩ := mu0_inv hm
  obtain ⟨_,_,a,t,fz,e⟩ := hlive o 0 hl
  exact .inl ⟨⟨_,first_cells e,rfl⟩,by rw [hlim]; exact h1⟩
section
variable {H : Type} {enc : TypeId × Value -> H} {P : Program} {w : World}
theorem first_read {b : Nat} {a : Array Value} {t : TypeId} {fz : Nat × Nat} {off n : Nat} (h : w.heap[b]? = some (.cells a t fz)) (hn : off + n <= a.size) :
  rCs (first w) b 0 off n = some (((a.toList.drop off).take n).map (tr w.heap.size)) := by
 unfold rCs Heap.cells?
 rw [first_cells h]
 simp only [Cells.lenOf]
 simp [Nat.ble_eq_true_of_le hn,List.map_drop,List.map_take]
theorem mapM_mem {α β : Type} {f : α -> Option β} : ∀ {l : List α} {r : List β},l.mapM f = some r -> ∀ x ∈ l, ∃ y,f x = some y
 | [],_,_,x,hx => by cases hx
 | a :: l,r,h,x,hx => by
  rw [List.mapM_cons] at h
  simp only [bind,Option.bind_eq_some_iff,pure,Option.some.injEq] at h
  obtain ⟨y,h1,ys,h2,_⟩ := h
  cases hx with
  | head => exact ⟨y,h1⟩
  | tail _ hx => exact mapM_mem h2 x hx
theorem trod_slice {base : Nat} {sp : Nat -> Bool} {held : Bool} {m : Nat} {t e : TypeId} {c : Value} {d : DataW H} {ps : List MemPlace} (hsp : ∀ b,sp b = true) (ht : P.underlying t = some (.slice e)) (h : DataW.trod enc P w base sp held m t [c] = some (d,ps)) :
  c = .slice none 0 0 \/ ∃ a len cap m',c = .slice (some a) len cap /\ len <= cap /\ cap <= maxLen /\ ∀ i,i < cap -> ∃ vs x,w.cells? base (a.add (i * P.cellsOf e)) (P.cellsOf e) = some vs /\ DataW.trod enc P w base sp held m' e vs = some x := by
 cases m with
 | zero => simp [DataW.trod] at h
 | succ m =>
  unfold DataW.trod at h
  rw [ht] at h
  cases c <;> simp only at h <;> try (cases h; done)
  rename_i ao len cap
  cases ao with
  | none =>
   left
   cases len <;> cases cap <;> first | rfl | (simp at h)
  | some a =>
   right
   simp only at h
   split at h
   ·rename_i hle
    refine ⟨a,len,cap,m,rfl,hle.2.1,hle.2.2,fun i hi => ?_⟩
    rw [Option.bind_eq_some_iff] at h
    obtain ⟨elems,h1,h4⟩ := h
    rw [hsp] at h4
    simp only [if_true] at h4
    rw [Option.map_eq_some_iff] at h4
    obtain ⟨rest,h5,_⟩ := h4
    have key : ∃ y,((w.cells? base (a.add (i * P.cellsOf e)) (P.cellsOf e)).bind (DataW.trod enc P w base sp held m e)) = some y := by
     by_cases hl : i < len
     ·exact mapM_mem h1 i (by simpa using hl)
     ·obtain ⟨y,hy⟩ := mapM_mem h5 (i - len) (by simp; omega)
      rw [show len + (i - len) = i from by omega] at hy
      exact ⟨y,hy⟩
    obtain ⟨y,hy⟩ := key
    rw [Option.bind_eq_some_iff] at hy
    obtain ⟨vs,h2,h3⟩ := hy
    exact ⟨vs,y,h2,h3⟩
   ·cases h
theorem cells_one {base : Nat} {a : Addr} {vs : List Value} (h : w.cells? base a 1 = some vs) : ∃ v arr t fz,vs = [v] /\ a.spot = none /\ w.heap[a.block]? = some (.cells arr t fz) /\ arr[a.off]? = some v := by
 unfold World.cells? at h
 split at h
 ·rw [show List.range 1 = [0] from rfl] at h
  simp only [List.mapM_cons,List.mapM_nil,bind,Option.bind_eq_some_iff,pure,Option.some.injEq] at h
  obtain ⟨y,hy,ys,rfl,rfl⟩ := h
  have h0 : a.add 0 = a := by unfold Addr.add; rfl
  rw [h0] at hy
  unfold World.cell? at hy
  split at hy
  ·rename_i arr t fz e
   split at hy
   ·cases hy
   ·rename_i hs
    exact ⟨y,arr,t,fz,rfl,by simpa using hs,e,hy⟩
  ·cases hy
 ·cases h
theorem first_slice {base : Nat} {sp : Nat -> Bool} {held : Bool} {m : Nat} {t e : TypeId} {c : Value} {d : DataW H} {ps : List MemPlace} (hsp : ∀ b,sp b = true) (ht : P.underlying t = some (.slice e)) (he : P.cellsOf e = 1) (h : DataW.trod enc P w base sp held m t [c] = some (d,ps)) :
  ∃ xs : List Value,Sl (first w) (tr w.heap.size c) (xs.map (tr w.heap.size)) /\ xs.length <= maxLen /\ ∀ x ∈ xs, ∃ m' y,DataW.trod enc P w base sp held m' e [x] = some y := by
 rcases trod_slice hsp ht h with rfl | ⟨a,len,cap,m',rfl,h1,h1',h2⟩
 ·exact ⟨[],.inl ⟨tr_nil _,rfl⟩,Nat.zero_le _,fun x hx => by cases hx⟩
 ·rw [he] at h2
  simp only [Nat.mul_one] at h2
  by_cases hcap : cap = 0
  ·have hl : len = 0 := by omega
   subst hl
   refine ⟨[],.inr ?_,Nat.zero_le _,fun x hx => by cases hx⟩
   rw [tr_slice]
   by_cases c1 : a.spot = none /\ a.block < w.heap.size /\ 0 <= cap
   ·rw [if_pos c1]; exact ⟨_,_,_,_,rfl,fun q => by cases q⟩
   ·rw [if_neg c1,if_pos ⟨rfl,hcap⟩]; exact ⟨_,_,_,_,rfl,fun q => by cases q⟩
  ·have h0 : a.add 0 = a := by unfold Addr.add; rfl
   obtain ⟨vs0,x0,q1,q2⟩ := h2 0 (by omega)
   rw [h0] at q1
   obtain ⟨v0,arr,t0,fz,rfl,s1,s2,s3⟩ := cells_one q1
   have hat : ∀ i,i < cap -> ∃ v y,arr[a.off + i]? = some v /\ DataW.trod enc P w base sp held m' e [v] = some y := by
    intro i hi
    obtain ⟨vs,x,q3,q4⟩ := h2 i hi
    obtain ⟨v,arr',t',fz',rfl,r4,r5,r6⟩ := cells_one q3
    have e1 : (a.add i).block = a.block := by unfold Addr.add; split <;> rfl
    have e2 : (a.add i).off = a.off + i := by
     unfold Addr.add
     split
     ·rename_i h; subst h; rfl
     ·rfl
    rw [e1,s2] at r5
    cases r5
    rw [e2] at r6
    exact ⟨v,x,r6,q4⟩
   have hsz : a.off + len <= arr.size := by
    obtain ⟨v,y,q,_⟩ := hat (cap - 1) (by omega)
    have := (Array.getElem?_eq_some_iff.1 q).1
    omega
   have hblk := (Array.getElem?_eq_some_iff.1 s2).1
   have hlen : (((arr.toList.drop a.off).take len).map (tr w.heap.size)).length = len := by simp; omega
   refine ⟨(arr.toList.drop a.off).take len,.inr ?_,by simp; omega,fun x hx => ?_⟩
   ·refine ⟨a.block,0,a.off,.exact cap,?_,fun _ => ⟨by rw [first_next]; exact hblk,?_⟩⟩
    ·rw [hlen,tr_slice,if_pos ⟨s1,hblk,h1⟩]
    ·rw [hlen]
     exact first_read s2 hsz
   ·obtain ⟨i,hi⟩ := List.getElem?_of_mem hx
    rw [List.getElem?_take] at hi
    split at hi
    ·rename_i hil
     rw [List.getElem?_drop,Array.getElem?_toList] at hi
     obtain ⟨v,y,q1,q2⟩ := hat i (by omega)
     rw [q1] at hi
     cases hi
     exact ⟨m',y,q2⟩
    ·cases hi
theorem trod_field {base : Nat} {sp : Nat -> Bool} {held : Bool} {m : Nat} {t : TypeId} {fs : Array Field} {cs : List Value} {x : DataW H × List MemPlace} (ht : P.underlying t = some (.struct fs)) (h : DataW.trod enc P w base sp held m t cs = some x)
  (i : Nat) {f : Field} (hi : fs[i]? = some f) (h1 : P.cellsOf f.type = 1) {c : Value} (hc : cs[f.offset]? = some c) : ∃ n y,DataW.trod enc P w base sp held n f.type [c] = some y := by
 obtain ⟨xs,n,_,_,_,hxs,hf⟩ := DataW.trod_struct ht h
 have h2 := hf i f hi
 rw [h1] at h2
 obtain ⟨hl,e⟩ := List.getElem?_eq_some_iff.1 hc
 have e2 : (cs.drop f.offset).take 1 = [c] := by
  rw [List.drop_eq_getElem_cons hl,e]
  rfl
 rw [e2] at h2
 have hi' := (Array.getElem?_eq_some_iff.1 hi).1
 exact ⟨n,xs[i]'(by rw [hxs]; exact hi'),by rw [h2]; exact List.getElem?_eq_getElem (by rw [hxs]; exact hi')⟩
theorem trod_int {base : Nat} {sp : Nat -> Bool} {held : Bool} {m : Nat} {t : TypeId} {k : IntKind} {c : Value} {y : DataW H × List MemPlace} (ht : P.underlying t = some (.int k)) (h : DataW.trod enc P w base sp held m t [c] = some y) : ∃ n,c = .int k n /\ (Lit.int k n).wf = true := by
 cases m with
 | zero => simp [DataW.trod] at h
 | succ m =>
  unfold DataW.trod at h
  rw [ht] at h
  cases c <;> simp only at h <;> try (cases h; done)
  split at h
  ·rename_i k' n hk
   obtain ⟨rfl,h2⟩ := hk
   exact ⟨n,rfl,h2⟩
  ·cases h
theorem ints_of {k : IntKind} : ∀ {xs : List Value},(∀ x ∈ xs, ∃ n,x = .int k n /\ (Lit.int k n).wf = true) -> ∃ ns : List Int,xs = ns.map (.int k) /\ ∀ n ∈ ns,(Lit.int k n).wf = true
 | [],_ => ⟨[],rfl,fun _ h => by cases h⟩
 | x :: xs,h => by
  obtain ⟨n,rfl,hw⟩ := h x List.mem_cons_self
  obtain ⟨ns,rfl,hns⟩ := ints_of fun y hy => h y (List.mem_cons_of_mem _ hy)
  exact ⟨n :: ns,rfl,fun m hm => by cases hm with | head => exact hw | tail _ hm => exact hns m hm⟩
theorem first_ints {base : Nat} {sp : Nat -> Bool} {held : Bool} {m : Nat} {t e : TypeId} {k : IntKind} {c : Value} {d : DataW H} {ps : List MemPlace} (hsp : ∀ b,sp b = true) (ht : P.underlying t = some (.slice e)) (he : P.cellsOf e = 1) (hk : P.underlying e = some (.int k)) (h : DataW.trod enc P w base sp held m t [c] = some (d,ps)) :
  ∃ ns : List Int,Sl (first w) (tr w.heap.size c) (ns.map (.int k)) /\ ns.length <= maxLen /\ ∀ n ∈ ns,(Lit.int k n).wf = true := by
 obtain ⟨xs,h1,h2,h3⟩ := first_slice hsp ht he h
 obtain ⟨ns,rfl,h4⟩ := ints_of fun x hx => let ⟨_,_,q⟩ := h3 x hx; trod_int hk q
 refine ⟨ns,?_,by simpa using h2,h4⟩
 have : (ns.map (Value.int k)).map (tr w.heap.size) = ns.map (.int k) := by
  rw [List.map_map]
  apply List.map_congr_left
  intro n _
  simp [tr]
 rw [this] at h1
 exact h1
end
end Go.Xr
namespace Go.Xr
open Go.RowKit
section
variable {X : XProg} {hook : Task -> Option Out} {rnd : Option Nat} {t : Tr V} {d : List XDef} {h : Heap} {Q : XExit -> Tr V -> List XDef -> Heap -> Prop}
theorem WC.mono {c : XCode} {Q' : XExit -> Tr V -> List XDef -> Heap -> Prop} (hw : WC X hook rnd c t d h Q) (hq : ∀ e t d h,Q e t d h -> Q' e t d h) : WC X hook rnd c t d h Q' := ⟨xwp_mono hq hw.out⟩
theorem s_cut1 {a rest : XCode} (P : Tr V -> List XDef -> Heap -> Prop) (h1 : WC X hook rnd a t d h (andThen (fun _ t d h => P t d h) Q)) (h2 : ∀ t d h,P t d h -> WC X hook rnd rest t d h Q) : WC X hook rnd (.seq a rest) t d h Q :=
 s_seq (h1.mono fun e t d h q => by cases e with | normal => exact h2 _ _ _ q | exit i => exact q | ret => exact q)
theorem s_cut2 {a b rest : XCode} (P : Tr V -> List XDef -> Heap -> Prop) (h1 : WC X hook rnd (.seq a b) t d h (andThen (fun _ t d h => P t d h) Q)) (h2 : ∀ t d h,P t d h -> WC X hook rnd rest t d h Q) : WC X hook rnd (.seq a (.seq b rest)) t d h Q := by
 refine s_seq ?_
 refine WC.mono (Q := andThen (fun _ t d h => WC X hook rnd b t d h (andThen (fun _ t d h => P t d h) Q)) (andThen (fun _ t d h => P t d h) Q)) ⟨?_⟩ fun e t d h q => ?_
 ·refine xwp_mono (fun e t d h q => ?_) h1.out
  cases e with
  | normal => exact ⟨q⟩
  | exit i => exact q
  | ret => exact q
 ·cases e with
  | normal => exact s_cut1 P q h2
  | exit i => exact q
  | ret => exact q
theorem s_cut3 {a b c rest : XCode} (P : Tr V -> List XDef -> Heap -> Prop) (h1 : WC X hook rnd (.seq a (.seq b c)) t d h (andThen (fun _ t d h => P t d h) Q)) (h2 : ∀ t d h,P t d h -> WC X hook rnd rest t d h Q) : WC X hook rnd (.seq a (.seq b (.seq c rest))) t d h Q := by
 refine s_seq ?_
 refine WC.mono (Q := andThen (fun _ t d h => WC X hook rnd (.seq b c) t d h (andThen (fun _ t d h => P t d h) Q)) (andThen (fun _ t d h => P t d h) Q)) ⟨?_⟩ fun e t d h q => ?_
 ·refine xwp_mono (fun e t d h q => ?_) h1.out
  cases e with
  | normal => exact ⟨q⟩
  | exit i => exact q
  | ret => exact q
 ·cases e with
  | normal => exact s_cut2 P q h2
  | exit i => exact q
  | ret => exact q
theorem s_dcall {f : Nat} {fn : XFunc} {args : List V} {Q : Heap -> Prop} (hf : X.funcs.get f = some fn) (hh : hook (.call true f args h) = none) (hr : fn.results = [])
  (hc : WC X hook none fn.code (argsFrom .lf 0 args) [] h (xfin X hook fn.results fun _ h' => Q h')) : EvDCall X hook f args h Q := by
 refine evDCall_of hf hh ((xwp_sound hc.out).mono fun e t d h q => ?_)
 rw [hr] at q ⊢
 have main : EvDefers X hook d h (fun h => xres t h [] fun vs => Q h) -> EvDefers X hook d h fun h => (∃ vs,resultsOf t h [] = some vs) /\ Q h :=
  fun ⟨n,h',h1,h2⟩ => ⟨n,h',h1,⟨_,rfl⟩,h2⟩
 cases e with
 | exit i => exact q.elim
 | normal => exact ⟨(fun i q => by cases q),main q⟩
 | ret => exact ⟨(fun i q => by cases q),main q⟩
theorem xfin_defer {f : Nat} {args : List V} {rs : List XRes} {Q : V -> Heap -> Prop} (hc : EvDCall X hook f args h fun h => xres t h rs fun vs => Q (o1f vs) h) : xfin X hook rs Q .ret t [.call f args] h := by
 show EvDefers X hook [.call f args] h _
 exact evDefers_call (let ⟨n,v,h',h1,h2⟩ := hc; ⟨n,v,h',h1,evDefers_nil h2⟩)
end
def HFits (h h' : Heap) : Prop := h.next <= h'.next /\ ∀ o,h'.get o = h.get o \/ h'.get o = none \/ (h'.get o = some (.dead true) /\ o < h'.next)
section
variable (X : XProg) (hook : Task -> Option Out) (m : MapLoop) (rnd : Option Nat) (eM : XExit) (tM : Tr V) (dM : List XDef) (hM : Heap)
def AllTo : Nat -> Tr V -> List XDef -> Heap -> Prop
 | 0,_,_,_ => False
 | n + 1,t,d,h => ∃ oi mo ins seen cur kd es,rd t m.it = .iter oi /\ h.get oi = some (.miter (some mo) ins seen cur) /\ h.get mo = some (.map kd es ins) /\
  (leftOf seen es = [] -> eM = .exit m.L /\ TFits ((t.set m.tnx (.tup [.bool false])).set m.tok (.bool false)) tM /\ d = dM /\ HFits h hM) /\
  ∀ k v,(k,v) ∈ leftOf seen es -> EvCode X hook m.rest rnd ((t.set m.tnx (.tup [.bool true,.int kd k,v])).set m.tok (.bool true)) d (h.put oi (.miter (some mo) ins (k :: seen) (some k)))
   fun e t2 d2 h2 => match e with
    | .normal => AllTo n t2 d2 h2
    | e => e = eM /\ TFits t2 tM /\ d2 = dM /\ HFits h2 hM
end
abbrev Pick := MapLoop -> Option Nat -> Tr V -> List XDef -> Heap -> List (XExit × Tr V × List XDef × Heap)
open Classical in
noncomputable def firstOk (X : XProg) (hook : Task -> Option Out) (m : MapLoop) (rnd : Option Nat) (t : Tr V) (d : List XDef) (h : Heap) : List (XExit × Tr V × List XDef × Heap) -> Option Out
 | [] => none
 | (e,t',d',h') :: l => if ∃ n,AllTo X hook m rnd e t' d' h' n t d h then some (.code e t' d' h') else firstOk X hook m rnd t d h l
noncomputable def pickHook (X : XProg) (hook : Task -> Option Out) (W : Pick) : Task -> Option Out
 | .code c rnd t d h => match parseLoop c with
  | none => none
  | some m => firstOk X hook m rnd t d h (W m rnd t d h)
 | _ => none
section
variable [RoLim] {P : Program} {X : XProg} {hook : Task -> Option Out} {m : MapLoop} {rnd : Option Nat} {eM : XExit} {tM : Tr V} {dM : List XDef} {hM : Heap}
theorem allTo_sound (S : ∀ n,Sound P (ev X hook n)) : ∀ (n : Nat) (t : Tr V) (d : List XDef) (h : Heap),AllTo X hook m rnd eM tM dM hM n t d h -> TaskOk P (.code m.code rnd t d h) (.code eM tM dM hM)
 | 0,t,d,h,hr => hr.elim
 | n + 1,t,d,h,⟨oi,mo,ins,seen,cur,kd,es,hit,hgi,hgm,hend,hstep⟩ => by
  by_cases hl : leftOf seen es = []
  ·obtain ⟨e1,e2,e3,e4⟩ := hend hl
   subst e1; subst e3
   refine CodeWP.weak (Q := fun e t1 d1 h1 => e = .exit m.L /\ t1 = ((t.set m.tnx (.tup [.bool false])).set m.tok (.bool false)) /\ d1 = d /\ h1 = h) (code_mapLoop1 (step_next rfl rfl hit hgi hgm (fun _ => ?_) (fun k v hkv => ?_))) fun e t1 d1 h1 ⟨a1,a2,a3,a4⟩ => ⟨tM,hM,by rw [a2]; exact e2,by rw [a4]; exact HeapW.of e4.1 e4.2,a1,rfl,a3,rfl⟩
   ·exact ⟨rfl,false,[],rfl,fun _ => ⟨rfl,rfl,rfl,rfl⟩,fun hf => by cases hf⟩
   ·rw [hl] at hkv; cases hkv
  ·refine code_mapLoop1 (step_next rfl rfl hit hgi hgm (fun hl' => absurd hl' hl) (fun k v hkv => ?_))
   refine ⟨rfl,true,[.int kd k,v],rfl,(fun hf => by cases hf),fun _ => ?_⟩
   obtain ⟨n1,e2,t2,d2,h2,he,hq⟩ := hstep k v hkv
   cases e2 with
   | normal =>
    have := allTo_sound S n t2 d2 h2 hq
    refine CodeWP.mono (S _ _ _ he) fun e t1 d1 h1 ⟨a1,a2,a3,a4⟩ => ?_
    subst a1; subst a2; subst a3; subst a4
    exact this
   | exit i =>
    obtain ⟨q1,q2,q3,q4⟩ := hq
    refine CodeWP.weak (S _ _ _ he) fun e1 t1 d1 h1 ⟨a1,a2,a3,a4⟩ => ⟨tM,hM,by rw [a2]; exact q2,by rw [a4]; exact HeapW.of q4.1 q4.2,?_⟩
    subst a1
    exact ⟨q1,rfl,by rw [a3,q3],rfl⟩
   | ret =>
    obtain ⟨q1,q2,q3,q4⟩ := hq
    refine CodeWP.weak (S _ _ _ he) fun e1 t1 d1 h1 ⟨a1,a2,a3,a4⟩ => ⟨tM,hM,by rw [a2]; exact q2,by rw [a4]; exact HeapW.of q4.1 q4.2,?_⟩
    subst a1
    exact ⟨q1,rfl,by rw [a3,q3],rfl⟩
theorem firstOk_sound (S : ∀ n,Sound P (ev X hook n)) {t : Tr V} {d : List XDef} {h : Heap} {r : Out} : ∀ {l},firstOk X hook m rnd t d h l = some r -> TaskOk P (.code m.code rnd t d h) r
 | [],hk => by cases hk
 | (e,t',d',h') :: l,hk => by
  unfold firstOk at hk
  split at hk
  ·rename_i hex
   obtain ⟨n,hn⟩ := hex
   cases hk
   exact allTo_sound S n _ _ _ hn
  ·exact firstOk_sound S hk
theorem pickHook_sound {W : Pick} (S : ∀ n,Sound P (ev X hook n)) : Sound P (pickHook X hook W) := by
 intro k r hk
 unfold pickHook at hk
 split at hk
 ·split at hk
  ·cases hk
  ·rename_i m hm
   have hc := parseLoop_eq hm
   subst hc
   exact firstOk_sound S hk
 ·cases hk
end
section
variable {X : XProg} {hook : Task -> Option Out} {rnd : Option Nat}
theorem leftOf_mem {seen : List Int} {p : Int × V} : ∀ {es : List (Int × V)},p ∈ leftOf seen es ↔ p ∈ es /\ p.1 ∉ seen
 | [] => by simp [leftOf]
 | (k,v) :: r => by
  unfold leftOf
  have hs : seen.any (fun a => decide (a = k)) = true ↔ k ∈ seen := by
   rw [List.any_eq_true]
   constructor
   ·rintro ⟨x,hx,hk⟩; rw [<- of_decide_eq_true hk]; exact hx
   ·exact fun h => ⟨k,h,by simp⟩
  split
  ·rename_i h
   rw [leftOf_mem,List.mem_cons]
   constructor
   ·exact fun ⟨h1,h2⟩ => ⟨.inr h1,h2⟩
   ·rintro ⟨rfl | h1,h2⟩
    ·exact absurd (hs.1 h) h2
    ·exact ⟨h1,h2⟩
  ·rename_i h
   have h' : k ∉ seen := fun q => by rw [hs.2 q] at h; cases h
   rw [List.mem_cons,leftOf_mem,List.mem_cons]
   constructor
   ·rintro (rfl | ⟨h1,h2⟩)
    ·exact ⟨.inl rfl,h'⟩
    ·exact ⟨.inr h1,h2⟩
   ·rintro ⟨rfl | h1,h2⟩
    ·exact .inl rfl
    ·exact .inr ⟨h1,h2⟩
theorem leftOf_fewer {seen : List Int} {k : Int} : ∀ {es : List (Int × V)},(leftOf (k :: seen) es).length <= (leftOf seen es).length
 | [] => Nat.le_refl _
 | (a,v) :: r => by
  have ih := leftOf_fewer (seen := seen) (k := k) (es := r)
  unfold leftOf
  simp only [List.any_cons]
  cases h : seen.any (fun b => decide (b = a)) <;> cases h2 : decide (k = a) <;> simp <;> omega
theorem leftOf_lt {seen : List Int} {k : Int} {v : V} : ∀ {es : List (Int × V)},(k,v) ∈ leftOf seen es -> (leftOf (k :: seen) es).length < (leftOf seen es).length
 | [],h => by cases h
 | (a,w) :: r,h => by
  have ih := @leftOf_lt seen k v r
  have il := leftOf_fewer (seen := seen) (k := k) (es := r)
  unfold leftOf at h ⊢
  simp only [List.any_cons]
  cases hs : seen.any (fun b => decide (b = a)) <;> rw [hs] at h
  ·simp only at h
   cases h2 : decide (k = a)
   ·simp only [Bool.or_false,List.length_cons]
    rcases List.mem_cons.1 h with e | h
    ·cases e; simp at h2
    ·have := ih h
     omega
   ·simp only [Bool.true_or,List.length_cons]
    omega
  ·simp only [Bool.or_true] at h ⊢
   exact ih h
theorem allTo_of {m : MapLoop} {eM : XExit} {tM : Tr V} {dM : List XDef} {hM : Heap} {oi mo ins : Nat} {kd : IntKind} {es : List (Int × V)} (I : List Int -> Tr V -> List XDef -> Heap -> Prop)
  (hI : ∀ seen t d h,I seen t d h -> rd t m.it = .iter oi /\ (∃ cur,h.get oi = some (.miter (some mo) ins seen cur)) /\ h.get mo = some (.map kd es ins))
  (hend : ∀ seen t d h,I seen t d h -> (∀ p ∈ es,p.1 ∈ seen) -> eM = .exit m.L /\ TFits ((t.set m.tnx (.tup [.bool false])).set m.tok (.bool false)) tM /\ d = dM /\ HFits h hM)
  (hstep : ∀ seen t d h k v,I seen t d h -> (k,v) ∈ es -> k ∉ seen -> WC X hook rnd m.rest ((t.set m.tnx (.tup [.bool true,.int kd k,v])).set m.tok (.bool true)) d (h.put oi (.miter (some mo) ins (k :: seen) (some k)))
   fun e t2 d2 h2 => match e with | .normal => I (k :: seen) t2 d2 h2 | e => e = eM /\ TFits t2 tM /\ d2 = dM /\ HFits h2 hM) :
  ∀ (n : Nat) (seen : List Int) (t : Tr V) (d : List XDef) (h : Heap),(leftOf seen es).length < n -> I seen t d h -> AllTo X hook m rnd eM tM dM hM n t d h
 | 0,seen,t,d,h,hn,hi => absurd hn (Nat.not_lt_zero _)
 | n + 1,seen,t,d,h,hn,hi => by
  obtain ⟨h1,⟨cur,h2⟩,h3⟩ := hI _ _ _ _ hi
  refine ⟨oi,mo,ins,seen,cur,kd,es,h1,h2,h3,fun hl => hend _ _ _ _ hi fun p hp => ?_,fun k v hkv => ?_⟩
  ·by_cases hs : p.1 ∈ seen
   ·exact hs
   ·have := leftOf_mem.2 ⟨hp,hs⟩
    rw [hl] at this
    cases this
  ·obtain ⟨hm,hk⟩ := leftOf_mem.1 hkv
   refine (xwp_sound (hstep _ _ _ _ k v hi hm hk).out).mono fun e t2 d2 h2 q => ?_
   cases e with
   | normal => exact allTo_of I hI hend hstep n _ _ _ _ (by have := leftOf_lt hkv; omega) q
   | exit i => exact q
   | ret => exact q
theorem evCode_same {c : XCode} {t : Tr V} {d : List XDef} {h : Heap} {Q Q' : XExit -> Tr V -> List XDef -> Heap -> Prop} (h1 : EvCode X hook c rnd t d h Q) (h2 : EvCode X hook c rnd t d h Q') : ∃ e t2 d2 h2,Q e t2 d2 h2 /\ Q' e t2 d2 h2 := by
 obtain ⟨n,e,t1,d1,g1,a1,a2⟩ := h1
 obtain ⟨m,e',t2,d2,g2,b1,b2⟩ := h2
 have c1 := ev_mono (Nat.le_max_left n m) _ _ a1
 have c2 := ev_mono (Nat.le_max_right n m) _ _ b1
 rw [c1] at c2
 cases c2
 exact ⟨_,_,_,_,a2,b2⟩
theorem allTo_same {m : MapLoop} {eM eM' : XExit} {tM tM' : Tr V} {dM dM' : List XDef} {hM hM' : Heap} : ∀ {n n' : Nat} {t : Tr V} {d : List XDef} {h : Heap},AllTo X hook m rnd eM tM dM hM n t d h -> AllTo X hook m rnd eM' tM' dM' hM' n' t d h -> eM = eM'
 | 0,_,_,_,_,h1,_ => h1.elim
 | _ + 1,0,_,_,_,_,h2 => h2.elim
 | n + 1,n' + 1,t,d,h,⟨oi,mo,ins,seen,cur,kd,es,a1,a2,a3,a4,a5⟩,⟨oi',mo',ins',seen',cur',kd',es',b1,b2,b3,b4,b5⟩ => by
  rw [a1] at b1; cases b1
  rw [a2] at b2; cases b2
  rw [a3] at b3; cases b3
  cases hl : leftOf seen es with
  | nil => rw [(a4 hl).1,(b4 hl).1]
  | cons p l =>
   have hp : (p.1,p.2) ∈ leftOf seen es := by rw [hl]; exact List.mem_cons_self
   obtain ⟨e,t2,d2,h2,q1,q2⟩ := evCode_same (a5 _ _ hp) (b5 _ _ hp)
   cases e with
   | normal => exact allTo_same q1 q2
   | exit i => rw [<- q1.1,q2.1]
   | ret => rw [<- q1.1,q2.1]
theorem firstOk_of {m : MapLoop} {t : Tr V} {d : List XDef} {h : Heap} {eM : XExit} {tM : Tr V} {dM : List XDef} {hM : Heap} (ha : ∃ n,AllTo X hook m rnd eM tM dM hM n t d h) : ∀ {l},(eM,tM,dM,hM) ∈ l -> (∀ q ∈ l,q.1 = eM -> q = (eM,tM,dM,hM)) -> firstOk X hook m rnd t d h l = some (.code eM tM dM hM)
 | [],hm,_ => by cases hm
 | (e,t',d',h') :: l,hm,hu => by
  unfold firstOk
  split
  ·rename_i hex
   obtain ⟨n,hn⟩ := hex
   obtain ⟨n',hn'⟩ := ha
   have := hu _ List.mem_cons_self (allTo_same hn hn')
   cases this
   rfl
  ·rename_i hno
   refine firstOk_of ha ?_ fun q hq => hu q (List.mem_cons_of_mem _ hq)
   rcases List.mem_cons.1 hm with e | hm
   ·cases e; exact absurd ha hno
   ·exact hm
theorem s_pick {Hb : Task -> Option Out} {W : Pick} {body : XCode} {t : Tr V} {d : List XDef} {h : Heap} {Q : XExit -> Tr V -> List XDef -> Heap -> Prop} {m : MapLoop} (eM : XExit) (tM : Tr V) (dM : List XDef) (hM : Heap)
  (hb : hook (.code (.loop body) rnd t d h) = pickHook X Hb W (.code (.loop body) rnd t d h)) (hp : parseLoop (.loop body) = some m) (hw : (eM,tM,dM,hM) ∈ W m rnd t d h) (hu : ∀ q ∈ W m rnd t d h,q.1 = eM -> q = (eM,tM,dM,hM)) (ha : ∃ n,AllTo X Hb m rnd eM tM dM hM n t d h) (hq : Q eM tM dM hM) : WC X hook rnd (.loop body) t d h Q := by
 refine s_loop ⟨1,eM,tM,dM,hM,?_,hq⟩
 have : pickHook X Hb W (.code (.loop body) rnd t d h) = some (.code eM tM dM hM) := by
  simp only [pickHook,hp]
  exact firstOk_of ha hw hu
 rw [this] at hb
 simp only [ev,evStep,hb]
end
end Go.Xr
namespace Go.Xr
def capOk : Cap -> Nat -> Prop
 | .exact c,n => n <= c
 | .rest _ e,_ => e = 1
def Sw (h : Heap) (v : V) (vs : List V) : Prop := (v = .nils /\ vs = []) \/ ∃ o g off cap,v = .slice o g off vs.length cap /\ capOk cap vs.length /\ (0 < vs.length -> o < h.next /\ rCs h o g off vs.length = some vs)
theorem Sw.sl {h : Heap} {v : V} {vs : List V} (hs : Sw h v vs) : Sl h v vs := by
 rcases hs with hs | ⟨o,g,off,cap,h1,_,h2⟩
 ·exact .inl hs
 ·exact .inr ⟨o,g,off,cap,h1,h2⟩
theorem Sw.ext {h h' : Heap} {v : V} {vs : List V} (hs : Sw h v vs) (he : Ext h h') : Sw h' v vs := by
 rcases hs with hs | ⟨o,g,off,cap,h1,hc,h2⟩
 ·exact .inl hs
 ·exact .inr ⟨o,g,off,cap,h1,hc,fun hp => ⟨Nat.lt_of_lt_of_le (h2 hp).1 he.next,by rw [readCells_get (he.get o (h2 hp).1)]; exact (h2 hp).2⟩⟩
theorem slc_eq {h : Heap} {v : V} {k k' : IntKind} {lo hi : Option Int} {r : V} {K : V -> Heap -> Prop} (hlo : ∀ x,lo = some x -> 0 <= x) (hhi : ∀ x,hi = some x -> 0 <= x)
  (hr : sliceV h 1 v (lo.map Int.toNat) (hi.map Int.toNat) none = some r) (hk : K r h) : XSlc h 1 v (lo.map (.int k)) (hi.map (.int k')) none K := by
 have e : oEv (.slc 1 (.const v) ((lo.map (V.int k)).map .const) ((hi.map (V.int k')).map .const) (none.map .const)) (rd .lf) h = some (r,h) := by
  cases lo with
  | none =>
   cases hi with
   | none => simp only [oEv,Option.map_none,optNat,rd]; simp only [Option.map_none] at hr; rw [hr]
   | some b => simp only [oEv,Option.map_none,Option.map_some,optNat,rd,asNat_int (hhi b rfl)]; simp only [Option.map_none,Option.map_some] at hr; rw [hr]
  | some a =>
   cases hi with
   | none => simp only [oEv,Option.map_none,Option.map_some,optNat,rd,asNat_int (hlo a rfl)]; simp only [Option.map_none,Option.map_some] at hr; rw [hr]
   | some b => simp only [oEv,Option.map_none,Option.map_some,optNat,rd,asNat_int (hlo a rfl),asNat_int (hhi b rfl)]; simp only [Option.map_some] at hr; rw [hr]
 unfold XSlc
 rw [e]
 exact hk
theorem Sw.slice {h : Heap} {v : V} {vs : List V} (hs : Sw h v vs) {lo hi : Option Nat} (h1 : lo.getD 0 <= hi.getD vs.length) (h2 : hi.getD vs.length <= vs.length) : ∃ r,sliceV h 1 v lo hi none = some r /\ Sw h r ((vs.take (hi.getD vs.length)).drop (lo.getD 0)) := by
 rcases hs with ⟨rfl,rfl⟩ | ⟨o,g,off,cap,rfl,hc,hr⟩
 ·have e1 : hi.getD 0 = 0 := by simpa using h2
  have e2 : lo.getD 0 = 0 := by simp only [List.length_nil] at h1; omega
  exact ⟨.nils,by simp [sliceV,e1,e2],.inl ⟨rfl,by simp⟩⟩
 ·generalize hb : hi.getD vs.length = b at *
  generalize ha : lo.getD 0 = a at *
  have hlen : ((vs.take b).drop a).length = b - a := by simp; omega
  cases cap with
  | exact c =>
   simp only [capOk] at hc
   refine ⟨.slice o g (match Nat.beq c a with | true => off | false => off + a * 1) (b - a) (.exact (c - a)),by simp only [sliceV,Option.getD_none,hb,ha,Nat.ble_eq_true_of_le (Nat.le_refl c),Nat.ble_eq_true_of_le (show b <= c by omega),Nat.ble_eq_true_of_le h1,Bool.and_self] <;> rfl,.inr ⟨o,g,_,.exact (c - a),by rw [hlen],by simp only [capOk]; omega,fun hp => ?_⟩⟩
   rw [hlen] at hp ⊢
   have hb' : Nat.beq c a = false := by
    cases hx : Nat.beq c a with
    | false => rfl
    | true => have := Nat.eq_of_beq_eq_true hx; omega
   obtain ⟨q1,q2⟩ := hr (by omega)
   refine ⟨q1,?_⟩
   rw [hb']
   simp only [Nat.mul_one]
   rw [readCells_part q2 (by omega),List.drop_take]
  | rest n e =>
   simp only [capOk] at hc
   subst hc
   refine ⟨.slice o g (off + a * 1) (b - a) (.rest (n + a) 1),by simp only [sliceV,hb,ha,Nat.beq_refl,Nat.ble_eq_true_of_le h1,Bool.and_self,Nat.ble_eq_true_of_le h2,Bool.true_or],.inr ⟨o,g,_,.rest (n + a) 1,by rw [hlen],rfl,fun hp => ?_⟩⟩
   rw [hlen] at hp ⊢
   obtain ⟨q1,q2⟩ := hr (by omega)
   refine ⟨q1,?_⟩
   simp only [Nat.mul_one]
   rw [readCells_part q2 (by omega),List.drop_take]
theorem x_sw_lo {h : Heap} {v : V} {vs : List V} (hs : Sw h v vs) {k : IntKind} {i : Int} {K : V -> Heap -> Prop} (h0 : 0 <= i) (h1 : i <= vs.length) (hk : ∀ r,Sw h r (vs.drop i.toNat) -> K r h) : XSlc h 1 v (some (.int k i)) none none K := by
 obtain ⟨r,e,q⟩ := hs.slice (lo := some i.toNat) (hi := none) (by simp; omega) (by simp)
 refine slc_eq (lo := some i) (hi := none) (k' := k) (fun x hx => by cases hx; exact h0) (fun x hx => by cases hx) e (hk r ?_)
 simpa using q
theorem x_sw_hi {h : Heap} {v : V} {vs : List V} (hs : Sw h v vs) {k : IntKind} {i : Int} {K : V -> Heap -> Prop} (h0 : 0 <= i) (h1 : i <= vs.length) (hk : ∀ r,Sw h r (vs.take i.toNat) -> K r h) : XSlc h 1 v none (some (.int k i)) none K := by
 obtain ⟨r,e,q⟩ := hs.slice (lo := none) (hi := some i.toNat) (by simp) (by simp; omega)
 refine slc_eq (lo := none) (hi := some i) (k := k) (fun x hx => by cases hx) (fun x hx => by cases hx; exact h0) e (hk r ?_)
 simpa using q
theorem x_sw_lohi {h : Heap} {v : V} {vs : List V} (hs : Sw h v vs) {k k' : IntKind} {i j : Int} {K : V -> Heap -> Prop} (h0 : 0 <= i) (h1 : i <= j) (h2 : j <= vs.length) (hk : ∀ r,Sw h r ((vs.take j.toNat).drop i.toNat) -> K r h) : XSlc h 1 v (some (.int k i)) (some (.int k' j)) none K := by
 obtain ⟨r,e,q⟩ := hs.slice (lo := some i.toNat) (hi := some j.toNat) (by simp; omega) (by simp; omega)
 refine slc_eq (lo := some i) (hi := some j) (fun x hx => by cases hx; exact h0) (fun x hx => by cases hx; omega) e (hk r ?_)
 simpa using q
def Tk (b : Nat) (h : Heap) (v : V) (xs : List V) : Prop := (v = .nils /\ xs = []) \/ ∃ o g r cs,b <= o /\ o < h.next /\ v = .slice o g 0 xs.length (.rest 0 1) /\ h.get o = some (grownObj cs g r 1) /\ cs.take xs.length = xs /\ xs.length <= cs.length
theorem Tk.len {b : Nat} {h : Heap} {v : V} {xs : List V} (hs : Tk b h v xs) : lenS v = xs.length := by
 rcases hs with ⟨rfl,rfl⟩ | ⟨o,g,r,cs,_,_,rfl,_⟩ <;> rfl
theorem Tk.row {b : Nat} {h : Heap} {v : V} {xs : List V} (hs : Tk b h v xs) : rowS v = true := by
 rcases hs with ⟨rfl,rfl⟩ | ⟨o,g,r,cs,_,_,rfl,_⟩ <;> rfl
theorem Tk.sw {b : Nat} {h : Heap} {v : V} {xs : List V} (hs : Tk b h v xs) : Sw h v xs := by
 rcases hs with ⟨rfl,rfl⟩ | ⟨o,g,r,cs,_,hlt,rfl,hg,ht,hle⟩
 ·exact .inl ⟨rfl,rfl⟩
 ·exact .inr ⟨o,g,0,_,rfl,rfl,fun _ => ⟨hlt,by rw [readCells_grown hg (by omega),List.drop_zero,ht]⟩⟩
theorem Tk.sl {b : Nat} {h : Heap} {v : V} {xs : List V} (hs : Tk b h v xs) : Sl h v xs := hs.sw.sl
theorem Tk.low {b b' : Nat} {h : Heap} {v : V} {xs : List V} (hs : Tk b h v xs) (hb : b' <= b) : Tk b' h v xs := by
 rcases hs with hs | ⟨o,g,r,cs,h1,h2⟩
 ·exact .inl hs
 ·exact .inr ⟨o,g,r,cs,Nat.le_trans hb h1,h2⟩
theorem Tk.nil (b : Nat) (h : Heap) : Tk b h .nils [] := .inl ⟨rfl,rfl⟩
def rOb (v : V) : Option Nat := match v with | .slice o _ _ _ _ => some o | _ => none
theorem Tk.frame {b : Nat} {h h' : Heap} {v : V} {xs : List V} (hs : Tk b h v xs) (hn : h.next <= h'.next) (hg : ∀ o,rOb v = some o -> h'.get o = h.get o) : Tk b h' v xs := by
 rcases hs with hs | ⟨o,g,r,cs,h1,h2,rfl,h3,h4⟩
 ·exact .inl hs
 ·exact .inr ⟨o,g,r,cs,h1,Nat.lt_of_lt_of_le h2 hn,rfl,by rw [hg o rfl]; exact h3,h4⟩
theorem writeMid_grown {h : Heap} {o g : Nat} {r : List Nat} {cs ys : List V} (hg : h.get o = some (grownObj cs g r 1)) {k : Nat} (hk : k + ys.length <= cs.length) (h1 : ys.all V.one = true) : writeCells h o g k ys = some (h.put o (grownObj (over cs k ys) g [] 1)) := by
 unfold writeCells Heap.cells?
 rw [hg]
 simp only [grownObj,Nat.beq_refl]
 have hlen : ∀ (cs ys : List V) (k : Nat),(over cs k ys).length = cs.length := by
  intro cs
  induction cs with
  | nil => intro ys k; cases ys <;> simp [over]
  | cons c cs ih =>
   intro ys k
   cases ys with
   | nil => simp [over]
   | cons y ys =>
    cases k with
    | zero => simp only [over,List.length_cons,ih]
    | succ k => simp only [over,List.length_cons,ih]
 have : (Nat.ble (k + ys.length) cs.length && ys.all V.one) = true := by
  rw [h1,Bool.and_true]
  exact Nat.ble_eq_true_of_le hk
 simp only [this,hlen]
theorem over_take : ∀ {cs ys : List V} {k : Nat},k + ys.length <= cs.length -> (over cs k ys).take (k + ys.length) = cs.take k ++ ys /\ (over cs k ys).length = cs.length
 | cs,[],k,h => by rw [over_nil]; simp
 | [],y :: ys,k,h => by simp at h
 | c :: cs,y :: ys,0,h => by
  have := over_take (cs := cs) (ys := ys) (k := 0) (by simp at h ⊢; omega)
  simp only [over,List.length_cons]
  refine ⟨?_,by omega⟩
  have e := this.1
  simp only [Nat.zero_add,List.take_zero,List.nil_append] at e ⊢
  rw [List.take_succ_cons,e]
 | c :: cs,y :: ys,k + 1,h => by
  have := over_take (cs := cs) (ys := y :: ys) (k := k) (by simp at h ⊢; omega)
  simp only [over,List.length_cons]
  refine ⟨?_,by have := this.2; omega⟩
  rw [show k + 1 + (ys.length + 1) = (k + (y :: ys).length) + 1 by simp; omega,List.take_succ_cons,this.1]
  rfl
theorem append_tk {b : Nat} {h : Heap} {v : V} {xs ys : List V} {bytes : Nat} (hv : Tk b h v xs) (hn : b <= h.next) (h1 : ys.all V.one = true) (hb : (xs.length + ys.length) * bytes <= 140737488355328) :
  ∃ v' h',appendV h 1 bytes v ys ys.length = some (v',h') /\ Tk b h' v' (xs ++ ys) /\ But (fun o => rOb v = some o) h h' /\ (v' = v \/ rOb v' = rOb v \/ rOb v' = some h.next) := by
 unfold appendV
 cases hys : ys.length with
 | zero =>
  have := List.eq_nil_of_length_eq_zero hys
  subst this
  rw [List.append_nil]
  rcases hv with ⟨rfl,rfl⟩ | ⟨o,g,r,cs,h2,h3,rfl,h4⟩
  ·exact ⟨_,_,rfl,.inl ⟨rfl,rfl⟩,But.refl _ _,.inl rfl⟩
  ·exact ⟨_,_,rfl,.inr ⟨o,g,r,cs,h2,h3,rfl,h4⟩,But.refl _ _,.inl rfl⟩
 | succ k =>
  have hbound : Nat.ble ((xs.length + (k + 1)) * bytes) 140737488355328 = true := by rw [<- hys]; exact Nat.ble_eq_true_of_le hb
  rcases hv with ⟨rfl,rfl⟩ | ⟨o,g,r,cs,h2,h3,rfl,hg,ht,hle⟩
  ·simp only [List.length_nil,Nat.zero_add] at hbound
   simp only [hbound,List.nil_append]
   refine ⟨_,_,rfl,.inr ⟨h.next,0,[],ys,hn,Nat.lt_succ_self _,?_,?_,by simp,Nat.le_refl _⟩,?_,.inr (.inr rfl)⟩
   ·rw [hys]
   ·rw [nCs,Heap.get_push,if_pos rfl]
    rfl
   ·exact (Ext.push _ _).but _
  ·have hc : h.cells? o = some { cs := cs,g := g,lens := cs.length :: r,ro := false,esz := 1,spare := true } := by
    unfold Heap.cells?
    rw [hg]
    rfl
   simp only [hc,Nat.beq_refl,Bool.and_self,Bool.not_false]
   cases hfit : Nat.ble (0 + (xs.length + (k + 1)) * 1) cs.length with
   | true =>
    have hfit' := Nat.le_of_ble_eq_true hfit
    have hk : xs.length + ys.length <= cs.length := by omega
    have hw : writeCells h o g (0 + xs.length * 1) ys = some (h.put o (grownObj (over cs xs.length ys) g [] 1)) := by
     rw [Nat.zero_add,Nat.mul_one]
     exact writeMid_grown hg hk h1
    simp only [hw]
    obtain ⟨t1,t2⟩ := over_take hk
    refine ⟨_,_,rfl,.inr ⟨o,g,[],_,h2,h3,by rw [List.length_append,hys],by rw [Heap.get_put,if_pos rfl],by rw [List.length_append,t1,ht],by rw [List.length_append,t2]; exact hk⟩,⟨Nat.le_refl _,fun o' ho' hs => ?_⟩,.inr (.inl rfl)⟩
    rw [Heap.get_put,if_neg]
    rintro rfl
    exact hs rfl
   | false =>
    have hrd : rCs h o g 0 (xs.length * 1) = some xs := by rw [readCells_grown hg (by omega),Nat.mul_one,List.drop_zero,ht]
    simp only [hrd,hbound,h1,Bool.and_self]
    refine ⟨_,_,rfl,.inr ⟨o,g + 1,_,xs ++ ys,h2,h3,by rw [List.length_append,hys],by rw [Heap.get_put,if_pos rfl]; rfl,by rw [List.take_length],Nat.le_refl _⟩,⟨Nat.le_refl _,fun o' ho' hs => ?_⟩,.inr (.inl rfl)⟩
    rw [Heap.get_put,if_neg]
    rintro rfl
    exact hs rfl
theorem x_append_tk {b : Nat} {h : Heap} {v w : V} {xs ys : List V} {bytes : Nat} {K : V -> Heap -> Prop} (hv : Tk b h v xs) (hn : b <= h.next) (hw : Sl h w ys) (h1 : ys.all V.one = true) (hb : (xs.length + ys.length) * bytes <= 140737488355328)
  (hk : ∀ v' h',Tk b h' v' (xs ++ ys) -> But (fun o => rOb v = some o) h h' -> (v' = v \/ rOb v' = rOb v \/ rOb v' = some h.next) -> K v' h') : XAppend h 1 bytes v w K := by
 have hlen : lenV w = some ys.length := by
  rcases hw with ⟨rfl,rfl⟩ | ⟨o,g,off,cap,rfl,_⟩ <;> rfl
 have hel : elemsOf h 1 ys.length w = some ys := by
  rcases hw with ⟨rfl,rfl⟩ | ⟨o,g,off,cap,rfl,q⟩
  ·rfl
  ·cases ys with
   | nil => rfl
   | cons a r => simpa [elemsOf] using (q (by simp)).2
 obtain ⟨v',h',e,a1,a2,a3⟩ := append_tk hv hn h1 hb
 have happ : oEv (.append 1 bytes (.const v) (.const w)) (rd .lf) h = some (v',h') := by
  simp only [oEv,rd,hlen,hel,Nat.mul_one,Nat.beq_refl]
  exact e
 unfold XAppend
 rw [happ]
 exact hk v' h' a1 a2 a3
theorem Tk.write {b : Nat} {h : Heap} {v : V} {xs : List V} (hv : Tk b h v xs) {k : Nat} {y : V} (hk : k < xs.length) (h1 : y.one = true) : ∃ h',writeCells h (objS v) (genS v) (offS v + k) [y] = some h' /\ Tk b h' v (xs.set k y) /\ But (fun o => rOb v = some o) h h' /\ h'.next = h.next := by
 rcases hv with ⟨rfl,rfl⟩ | ⟨o,g,r,cs,h2,h3,rfl,hg,ht,hle⟩
 ·simp at hk
 ·refine ⟨h.put o (grownObj (cs.set k y) g [] 1),by simpa using writeCell_grown hg (k := k) (by omega) h1,.inr ⟨o,g,[],_,h2,h3,by rw [List.length_set],by rw [Heap.get_put,if_pos rfl],?_,by simpa using hle⟩,⟨Nat.le_refl _,fun o' ho' hs => ?_⟩,rfl⟩
  ·rw [List.length_set,List.take_set,ht]
  ·rw [Heap.get_put,if_neg]
   rintro rfl
   exact hs rfl
theorem Tk.cut {b : Nat} {h : Heap} {v : V} {xs : List V} (hv : Tk b h v xs) {k : IntKind} {i : Int} {K : V -> Heap -> Prop} (h0 : 0 <= i) (h1 : i <= xs.length) (hk : ∀ r,Tk b h r (xs.take i.toNat) -> rOb r = rOb v -> K r h) : XSlc h 1 v none (some (.int k i)) none K := by
 rcases hv with ⟨rfl,rfl⟩ | ⟨o,g,r,cs,h2,h3,rfl,hg,ht,hle⟩
 ·have : i = 0 := by simp at h1; omega
  subst this
  exact slc_eq (lo := none) (hi := some 0) (k := k) (fun x hx => by cases hx) (fun x hx => by cases hx; omega) (r := .nils) rfl (hk _ (.inl ⟨rfl,rfl⟩) rfl)
 ·have hl : (xs.take i.toNat).length = i.toNat := by simp; omega
  refine x_slc_hi h0 h1 (hk _ (.inr ⟨o,g,r,cs,h2,h3,by rw [hl],hg,?_,by rw [hl]; omega⟩) rfl)
  rw [hl, <- ht,List.take_take,Nat.min_eq_left (by omega)]
def GrN (e : Nat) (b : Nat) (h : Heap) (v : V) (cs : List V) (n : Nat) : Prop := (v = .nils /\ cs = [] /\ n = 0) \/ ∃ o g r,b <= o /\ o < h.next /\ v = .slice o g 0 n (.rest 0 e) /\ cs.length = n * e /\ h.get o = some (grownObj cs g r e)
theorem GrN.len {e b : Nat} {h : Heap} {v : V} {cs : List V} {n : Nat} (hs : GrN e b h v cs n) : lenS v = n := by
 rcases hs with ⟨rfl,rfl,rfl⟩ | ⟨o,g,r,_,_,rfl,_⟩ <;> rfl
theorem GrN.row {e b : Nat} {h : Heap} {v : V} {cs : List V} {n : Nat} (hs : GrN e b h v cs n) : rowS v = true := by
 rcases hs with ⟨rfl,rfl,rfl⟩ | ⟨o,g,r,_,_,rfl,_⟩ <;> rfl
theorem GrN.size {e b : Nat} {h : Heap} {v : V} {cs : List V} {n : Nat} (hs : GrN e b h v cs n) : cs.length = n * e := by
 rcases hs with ⟨rfl,rfl,rfl⟩ | ⟨o,g,r,_,_,rfl,hc,_⟩
 ·simp
 ·exact hc
theorem GrN.frame {e b : Nat} {h h' : Heap} {v : V} {cs : List V} {n : Nat} (hs : GrN e b h v cs n) (hn : h.next <= h'.next) (hg : ∀ o,rOb v = some o -> h'.get o = h.get o) : GrN e b h' v cs n := by
 rcases hs with hs | ⟨o,g,r,h1,h2,rfl,h3,h4⟩
 ·exact .inl hs
 ·exact .inr ⟨o,g,r,h1,Nat.lt_of_lt_of_le h2 hn,rfl,h3,by rw [hg o rfl]; exact h4⟩
theorem readCells_grownE {h : Heap} {o g e : Nat} {r : List Nat} {xs : List V} (hg : h.get o = some (grownObj xs g r e)) {off n : Nat} (hn : off + n <= xs.length) : rCs h o g off n = some ((xs.drop off).take n) := by
 unfold rCs Heap.cells?
 rw [hg]
 simp only [grownObj]
 rw [show ({ cs := xs,g := g,lens := xs.length :: r,ro := false,esz := e,spare := true } : Cells).lenOf g = some xs.length from lenOf_last rfl]
 simp [Nat.ble_eq_true_of_le hn]
theorem GrN.at {e b : Nat} {h : Heap} {v : V} {cs : List V} {n : Nat} (hs : GrN e b h v cs n) {i j : Nat} {x : V} (hi : i < n) (hx : cs[i * e + j]? = some x) : rCs h (objS v) (genS v) (offS v + i * e + j) 1 = some [x] := by
 rcases hs with ⟨rfl,rfl,rfl⟩ | ⟨o,g,r,_,_,rfl,hc,hg⟩
 ·omega
 ·obtain ⟨hl,hv⟩ := List.getElem?_eq_some_iff.1 hx
  simp only [objS_slice,genS_slice,offS_slice,Nat.zero_add]
  rw [readCells_grownE hg (by omega),List.drop_eq_getElem_cons hl]
  simp [hv]
structure SlE (e : Nat) (h : Heap) (v : V) (vss : List (List V)) : Prop where
 row : rowS v = true
 len : lenS v = vss.length
 elem : ∀ i (hi : i < vss.length),objS v < h.next /\ (vss[i]).length = e /\ rCs h (objS v) (genS v) (offS v + i * e) e = some vss[i]
theorem SlE.ext {e : Nat} {h h' : Heap} {v : V} {vss : List (List V)} (hs : SlE e h v vss) (x : Ext h h') : SlE e h' v vss :=
 ⟨hs.row,hs.len,fun i hi => let ⟨h1,h2,h3⟩ := hs.elem i hi; ⟨Nat.lt_of_lt_of_le h1 x.next,h2,by rw [readCells_get (x.get _ h1)]; exact h3⟩⟩
theorem SlE.at {e : Nat} {h : Heap} {v : V} {vss : List (List V)} (hs : SlE e h v vss) {i j : Nat} {vs : List V} {x : V} (hi : vss[i]? = some vs) (hj : vs[j]? = some x) : rCs h (objS v) (genS v) (offS v + i * e + j) 1 = some [x] := by
 obtain ⟨hi',rfl⟩ := List.getElem?_eq_some_iff.1 hi
 obtain ⟨hj',hx⟩ := List.getElem?_eq_some_iff.1 hj
 obtain ⟨_,h2,h3⟩ := hs.elem i hi'
 rw [readCells_part h3 (by omega),List.drop_eq_getElem_cons hj']
 simp [hx]
theorem x_min {h : Heap} {k : IntKind} {a b : Int} {K : V -> Heap -> Prop} {x y : Opd} {ρ : Rd} (hx : ρ x = .int k a) (hy : ρ y = .int k b) (hk : K (.int k (min a b)) h) : xsome (oEv (.minmax true x y) ρ h) K := by
 have hke : kindEq k k = true := by cases k <;> rfl
 have : oEv (.minmax true x y) ρ h = some (.int k (if b < a then b else a),h) := by
  simp only [oEv,hx,hy,hke]
 rw [this]
 have e : (if b < a then b else a) = min a b := by split <;> omega
 rw [e]
 exact hk
end Go.Xr
namespace Go.Chk
inductive St where
 | wrong | conflict | unit (x : Int)
def stepOf (yes l : List Int) : St :=
 if l.any (fun x => decide (x ∈ yes)) = true then .wrong else
 match l.filter (fun x => !decide (-x ∈ yes)) with
 | [] => .conflict
 | x :: r => if r.all (fun y => decide (y = x)) = true then .unit x else .wrong
theorem stepOf_wrong1 {yes l : List Int} {x : Int} (h1 : x ∈ l) (h2 : x ∈ yes) : stepOf yes l = .wrong := by
 unfold stepOf
 rw [if_pos (List.any_eq_true.2 ⟨x,h1,decide_eq_true h2⟩)]
theorem stepOf_conflict {yes l : List Int} (h : ∀ x ∈ l,x ∉ yes /\ -x ∈ yes) : stepOf yes l = .conflict := by
 unfold stepOf
 rw [if_neg]
 ·have : l.filter (fun x => !decide (-x ∈ yes)) = [] := by
   rw [List.filter_eq_nil_iff]
   intro x hx
   simp [(h x hx).2]
  rw [this]
 ·rw [List.any_eq_true]
  rintro ⟨x,h1,h2⟩
  exact (h x h1).1 (of_decide_eq_true h2)
theorem stepOf_unit {yes l : List Int} {x : Int} (h : ∀ y ∈ l,y ∉ yes) (h1 : x ∈ l) (h2 : -x ∉ yes) (h3 : ∀ y ∈ l, -y ∉ yes -> y = x) : stepOf yes l = .unit x := by
 unfold stepOf
 rw [if_neg]
 ·cases hf : l.filter (fun x => !decide (-x ∈ yes)) with
  | nil =>
   rw [List.filter_eq_nil_iff] at hf
   have := hf x h1
   simp [h2] at this
  | cons a r =>
   have hm : ∀ y ∈ a :: r,y = x := fun y hy => by
    rw [<- hf] at hy
    obtain ⟨q1,q2⟩ := List.mem_filter.1 hy
    exact h3 y q1 (by simpa using q2)
   have ha : a = x := hm a List.mem_cons_self
   subst ha
   simp only
   rw [if_pos]
   rw [List.all_eq_true]
   exact fun y hy => decide_eq_true (hm y (List.mem_cons_of_mem _ hy))
 ·rw [List.any_eq_true]
  rintro ⟨y,q1,q2⟩
  exact h y q1 (of_decide_eq_true q2)
theorem stepOf_wrong2 {yes l : List Int} {x y : Int} (h1 : x ∈ l) (h2 : y ∈ l) (h3 : x ≠ y) (h4 : -x ∉ yes) (h5 : -y ∉ yes) : stepOf yes l = .wrong := by
 unfold stepOf
 split
 ·rfl
 ·have mx : x ∈ l.filter (fun x => !decide (-x ∈ yes)) := List.mem_filter.2 ⟨h1,by simp [h4]⟩
  have my : y ∈ l.filter (fun x => !decide (-x ∈ yes)) := List.mem_filter.2 ⟨h2,by simp [h5]⟩
  generalize l.filter (fun x => !decide (-x ∈ yes)) = fl at mx my
  cases fl with
  | nil => cases mx
  | cons a r =>
   simp only
   rw [if_neg]
   rw [List.all_eq_true]
   intro q
   have e : ∀ z ∈ a :: r,z = a := fun z hz => by
    rcases List.mem_cons.1 hz with rfl | hz
    ·rfl
    ·exact of_decide_eq_true (q z hz)
   exact h3 ((e x mx).trans (e y my).symm)
theorem stepOf_cases (yes l : List Int) : ((∃ x ∈ l,x ∈ yes) /\ stepOf yes l = .wrong) \/ ((∃ x ∈ l, ∃ y ∈ l,x ≠ y /\ -x ∉ yes /\ -y ∉ yes) /\ stepOf yes l = .wrong) \/ ((∀ x ∈ l,x ∉ yes /\ -x ∈ yes) /\ stepOf yes l = .conflict) \/ ∃ x,((∀ y ∈ l,y ∉ yes) /\ x ∈ l /\ -x ∉ yes /\ ∀ y ∈ l, -y ∉ yes -> y = x) /\ stepOf yes l = .unit x := by
 by_cases h : ∃ x ∈ l,x ∈ yes
 ·obtain ⟨x,h1,h2⟩ := h
  exact .inl ⟨⟨x,h1,h2⟩,stepOf_wrong1 h1 h2⟩
 ·have h' : ∀ y ∈ l,y ∉ yes := fun y hy hm => h ⟨y,hy,hm⟩
  by_cases h2 : ∃ x ∈ l, -x ∉ yes
  ·obtain ⟨x,hx,hn⟩ := h2
   by_cases h3 : ∀ y ∈ l, -y ∉ yes -> y = x
   ·exact .inr (.inr (.inr ⟨x,⟨h',hx,hn,h3⟩,stepOf_unit h' hx hn h3⟩))
   ·simp only [Classical.not_forall] at h3
    obtain ⟨y,q1,q2,q3⟩ := h3
    exact .inr (.inl ⟨⟨y,q1,x,hx,q3,q2,hn⟩,stepOf_wrong2 q1 hx q3 q2 hn⟩)
  ·have h3 : ∀ x ∈ l,x ∉ yes /\ -x ∈ yes := fun x hx => ⟨h' x hx,Classical.byContradiction fun hn => h2 ⟨x,hx,hn⟩⟩
   exact .inr (.inr (.inl ⟨h3,stepOf_conflict h3⟩))
def Eqs (a b : List Int) : Prop := ∀ x,x ∈ a ↔ x ∈ b
theorem Eqs.refl (a : List Int) : Eqs a a := fun _ => Iff.rfl
theorem Eqs.symm {a b : List Int} (h : Eqs a b) : Eqs b a := fun x => (h x).symm
theorem Eqs.trans {a b c : List Int} (h : Eqs a b) (h' : Eqs b c) : Eqs a c := fun x => (h x).trans (h' x)
theorem Eqs.append {a b c d : List Int} (h : Eqs a b) (h' : Eqs c d) : Eqs (a ++ c) (b ++ d) := fun x => by
 rw [List.mem_append,List.mem_append,h x,h' x]
theorem stepOf_alike {yes yes' l l' : List Int} (hy : Eqs yes yes') (hl : Eqs l l') : stepOf yes l = stepOf yes' l' := by
 rcases stepOf_cases yes l with ⟨⟨x,h1,h2⟩,e⟩ | ⟨⟨x,h1,y,h2,h3,h4,h5⟩,e⟩ | ⟨h,e⟩ | ⟨x,⟨h1,h2,h3,h4⟩,e⟩
 ·rw [e,stepOf_wrong1 ((hl x).1 h1) ((hy x).1 h2)]
 ·rw [e,stepOf_wrong2 ((hl x).1 h1) ((hl y).1 h2) h3 (fun q => h4 ((hy _).2 q)) (fun q => h5 ((hy _).2 q))]
 ·rw [e,stepOf_conflict fun x hx => ⟨fun q => (h x ((hl x).2 hx)).1 ((hy x).2 q),(hy _).1 (h x ((hl x).2 hx)).2⟩]
 ·rw [e,stepOf_unit (fun y hm q => h1 y ((hl y).2 hm) ((hy y).2 q)) ((hl x).1 h2) (fun q => h3 ((hy _).2 q)) fun y hm q => h4 y ((hl y).2 hm) fun q' => q ((hy _).1 q')]
def find : List (Int × List Int) -> Int -> Option (List Int)
 | [],_ => none
 | (i,l) :: r,id => if i = id then some l else find r id
def thr (es : List (Int × List Int)) : List Int -> List Int -> List Int × Nat
 | yes,[] => (yes,0)
 | yes,id :: r => match find es id with
  | none => (yes,2)
  | some l => match stepOf yes l with
   | .wrong => (yes,2)
   | .conflict => (yes,1)
   | .unit x => thr es (yes ++ [x]) r
theorem thr_alike (es : List (Int × List Int)) : ∀ (hints : List Int) {yes yes' : List Int},Eqs yes yes' -> (thr es yes hints).2 = (thr es yes' hints).2 /\ Eqs (thr es yes hints).1 (thr es yes' hints).1
 | [],_,_,h => ⟨rfl,h⟩
 | id :: r,yes,yes',h => by
  unfold thr
  cases find es id with
  | none => exact ⟨rfl,h⟩
  | some l =>
   simp only
   rw [<- stepOf_alike h (Eqs.refl l)]
   cases stepOf yes l with
   | wrong => exact ⟨rfl,h⟩
   | conflict => exact ⟨rfl,h⟩
   | unit x => exact thr_alike es r (h.append (Eqs.refl _))
def headN : List Int -> Nat
 | [] => 0
 | h :: r => if 0 < h then headN r + 1 else 0
theorem headN_le : ∀ l,headN l <= l.length
 | [] => Nat.le_refl _
 | h :: r => by
  have := headN_le r
  unfold headN
  split <;> simp <;> omega
theorem headN_eq : ∀ {l : List Int} {i : Nat},i <= l.length -> (∀ j (hj : j < l.length),j < i -> 0 < l[j]) -> (∀ (hj : i < l.length), ¬ 0 < l[i]) -> headN l = i
 | [],i,h,_,_ => by simp at h; subst h; rfl
 | a :: r,0,_,_,h2 => by
  have := h2 (by simp)
  simp only [List.getElem_cons_zero] at this
  unfold headN
  rw [if_neg this]
 | a :: r,i + 1,h,h1,h2 => by
  have h0 := h1 0 (by simp) (by omega)
  simp only [List.getElem_cons_zero] at h0
  unfold headN
  rw [if_pos h0,headN_eq (i := i) (by simpa using h) (fun j hj hlt => by
   have := h1 (j + 1) (by simp; omega) (by omega)
   rw [List.getElem_cons_succ] at this
   exact this) (fun hj => by
   have := h2 (by simp; omega)
   rw [List.getElem_cons_succ] at this
   exact this)]
def groupOf (es : List (Int × List Int)) (l : List Int) (p : Int) (yes hints : List Int) : Int :=
 if l.any (fun x => decide (x ≠ -p /\ (x ∈ yes \/ -x ∈ l))) = true then 0 else
 match (thr es (yes ++ (l.filter fun x => decide (x ≠ -p)).map (fun x => -x)) hints).2 with
 | 0 => 61
 | 1 => 0
 | _ => 60
theorem groupOf_alike (es : List (Int × List Int)) (l : List Int) (p : Int) {yes yes' : List Int} (hints : List Int) (h : Eqs yes yes') : groupOf es l p yes hints = groupOf es l p yes' hints := by
 unfold groupOf
 have e : (l.any (fun x => decide (x ≠ -p /\ (x ∈ yes \/ -x ∈ l))) = true) = (l.any (fun x => decide (x ≠ -p /\ (x ∈ yes' \/ -x ∈ l))) = true) := by
  rw [List.any_eq_true,List.any_eq_true]
  simp only [decide_eq_true_eq,h _]
 simp only [e,(thr_alike es hints (h.append (Eqs.refl _))).1]
def groups (es : List (Int × List Int)) (p : Int) (yes : List Int) : List Int -> Int -> List Int -> Int
 | [],_,met => if es.any (fun e => decide (-p ∈ e.2 /\ e.1 ∉ met)) = true then 61 else 0
 | h :: r,last,met => match find es (-h) with
  | none => 60
  | some l => if -p ∉ l \/ -h <= last then 60 else
   if groupOf es l p yes (r.take (headN r)) = 0 then groups es p yes (r.drop (headN r)) (-h) (-h :: met) else groupOf es l p yes (r.take (headN r))
termination_by l => l.length
decreasing_by simp; omega
theorem groups_alike (es : List (Int × List Int)) (p : Int) {yes yes' : List Int} (h : Eqs yes yes') : ∀ (n : Nat) (hints : List Int) (last : Int) (met : List Int),hints.length <= n -> groups es p yes hints last met = groups es p yes' hints last met
 | n,[],last,met,_ => by rw [groups,groups]
 | 0,h :: r,_,_,hn => by simp at hn
 | n + 1,hd :: r,last,met,hn => by
  rw [groups,groups]
  cases find es (-hd) with
  | none => rfl
  | some l =>
   simp only
   rw [groupOf_alike es l p _ h,groups_alike es p h n _ _ _ (by simp at hn ⊢; omega)]
def both (l : List Int) : Bool := l.any fun x => decide (-x ∈ l)
theorem both_alike {l l' : List Int} (h : Eqs l l') : both l = both l' := by
 unfold both
 rw [Bool.eq_iff_iff,List.any_eq_true,List.any_eq_true]
 simp only [decide_eq_true_eq,h _]
def follows (es : List (Int × List Int)) (l hints : List Int) : Int :=
 if both l = true then 0 else
 match (thr es (l.map fun x => -x) (hints.take (headN hints))).2 with
 | 0 => match l with
  | [] => 61
  | p :: _ => groups es p (thr es (l.map fun x => -x) (hints.take (headN hints))).1 (hints.drop (headN hints)) 0 []
 | 1 => 0
 | _ => 60
def total (es : List (Int × List Int)) : Nat := (es.map fun e => e.2.length).sum
structure Chs where
 es : List (Int × List Int)
 last : Int
 over : Bool
def Chs.put (s : Chs) (id : Int) (l : List Int) : Chs := ⟨s.es ++ [(id,l)],id,s.over || l.isEmpty⟩
def none5 (es : List (Int × List Int)) (ids : List Int) : Bool := ids.any (fun id => (find es id).isNone) || !decide ids.Nodup
def Chs.step (s : Chs) (may : Bool) (kind id : Int) (l hints : List Int) : Int × Chs :=
 if may = false then (40,s)
 else if kind = 2 then (if none5 s.es hints = true then (5,s) else (0, { s with es := s.es.filter fun e => decide (e.1 ∉ hints) }))
 else if id <= s.last then (62,s)
 else if follows s.es l hints ≠ 0 then (follows s.es l hints,s)
 else if 16777216 < total s.es + l.length then (3,s)
 else (0,s.put id l)
def Rise (es : List (Int × List Int)) (last : Int) : Prop := (es.map Prod.fst).Pairwise (· < ·) /\ ∀ e ∈ es,e.1 <= last /\ 0 < e.1
theorem find_some : ∀ {es : List (Int × List Int)} {id : Int} {l : List Int},find es id = some l -> (id,l) ∈ es
 | [],_,_,h => by cases h
 | (i,k) :: r,id,l,h => by
  unfold find at h
  split at h
  ·rename_i e
   cases h; subst e
   exact List.mem_cons_self
  ·exact List.mem_cons_of_mem _ (find_some h)
theorem find_none : ∀ {es : List (Int × List Int)} {id : Int},find es id = none ↔ ∀ e ∈ es,e.1 ≠ id
 | [],_ => by simp [find]
 | (i,k) :: r,id => by
  unfold find
  split
  ·rename_i e
   subst e
   constructor
   ·intro h; cases h
   ·intro h; exact absurd rfl (h _ List.mem_cons_self)
  ·rename_i e
   rw [find_none]
   constructor
   ·intro h x hx
    rcases List.mem_cons.1 hx with rfl | hx
    ·exact e
    ·exact h x hx
   ·exact fun h x hx => h x (List.mem_cons_of_mem _ hx)
theorem find_at : ∀ {es : List (Int × List Int)} {i : Nat} {id : Int} (hi : i < es.length),(∀ j (hj : j < es.length),j < i -> (es[j]).1 ≠ id) -> (es[i]).1 = id -> find es id = some (es[i]).2
 | [],_,_,hi,_,_ => by simp at hi
 | (a,k) :: r,0,id,_,_,h => by
  simp only [List.getElem_cons_zero] at h ⊢
  unfold find
  rw [if_pos h]
 | (a,k) :: r,i + 1,id,hi,h1,h => by
  have h0 := h1 0 (by simp) (by omega)
  simp only [List.getElem_cons_zero] at h0
  unfold find
  rw [if_neg h0]
  have hi' : i < r.length := by simp at hi; omega
  have := find_at (es := r) hi' (fun j hj hlt => by
   have := h1 (j + 1) (by simp; omega) (by omega)
   rw [List.getElem_cons_succ] at this
   exact this) (by rw [List.getElem_cons_succ] at h; exact h)
  rw [this,List.getElem_cons_succ]
theorem find_append {es : List (Int × List Int)} {id i : Int} {l : List Int} : find (es ++ [(i,l)]) id = match find es id with | some k => some k | none => if i = id then some l else none := by
 induction es with
 | nil => simp [find]
 | cons a r ih =>
  obtain ⟨j,k⟩ := a
  simp only [List.cons_append,find]
  split
  ·rfl
  ·exact ih
theorem find_filter {es : List (Int × List Int)} {id : Int} (p : Int -> Bool) : find (es.filter fun e => p e.1) id = if p id = true then find es id else none := by
 induction es with
 | nil => simp [find]
 | cons a r ih =>
  obtain ⟨j,k⟩ := a
  rw [List.filter_cons]
  simp only
  split
  ·rename_i hp
   simp only [find]
   split
   ·rename_i e; subst e; rw [if_pos hp]
   ·exact ih
  ·rename_i hp
   rw [ih]
   simp only [find]
   split
   ·rename_i hq
    rw [if_neg]
    rintro rfl
    exact hp hq
   ·rfl
theorem total_append (es es' : List (Int × List Int)) : total (es ++ es') = total es + total es' := by
 unfold total
 rw [List.map_append,List.sum_append]
theorem total_filter_le (p : Int × List Int -> Bool) : ∀ es,total (es.filter p) <= total es
 | [] => Nat.le_refl _
 | a :: r => by
  have := total_filter_le p r
  rw [List.filter_cons]
  unfold total at *
  split <;> simp only [List.map_cons,List.sum_cons] <;> omega
theorem Rise.filter {es : List (Int × List Int)} {last : Int} (h : Rise es last) (p : Int × List Int -> Bool) : Rise (es.filter p) last :=
 ⟨h.1.sublist (List.Sublist.map _ List.filter_sublist),fun e he => h.2 e (List.mem_filter.1 he).1⟩
theorem Rise.put {es : List (Int × List Int)} {last id : Int} (h : Rise es last) (hi : last < id) (h0 : 0 < id) (l : List Int) : Rise (es ++ [(id,l)]) id := by
 refine ⟨?_,fun e he => ?_⟩
 ·rw [List.map_append,List.pairwise_append]
  refine ⟨h.1,by simp,fun a ha b hb => ?_⟩
  obtain ⟨e,he,rfl⟩ := List.mem_map.1 ha
  simp at hb
  subst hb
  have := (h.2 e he).1
  omega
 ·rcases List.mem_append.1 he with he | he
  ·have := h.2 e he
   omega
  ·simp at he
   subst he
   exact ⟨Int.le_refl _,h0⟩
structure Stp where
 kind : Int
 id : Int
 lits : List Int
 hints : List Int
def runOf (may : Stp -> Bool) : Chs -> List Stp -> Int -> Bool × Int × Int
 | s,[],n => (s.over,n,0)
 | s,x :: r,n => if s.over = true then (true,n,0) else
  if (s.step (may x) x.kind x.id x.lits x.hints).1 = 0 then runOf may (s.step (may x) x.kind x.id x.lits x.hints).2 r (n + 1) else (false,n,(s.step (may x) x.kind x.id x.lits x.hints).1)
def start : List (List Int) -> Chs -> Int -> Chs
 | [],s,_ => s
 | c :: r,s,n => start r (s.put n c) (n + 1)
end Go.Chk
namespace Go.Xr
def El (e : Nat) (h : Heap) (w : V) (k : Nat) (ys : List V) : Prop := lenV w = some k /\ elemsOf h e k w = some ys /\ ys.length = k * e
theorem append_grnk {e b : Nat} (he : 0 < e) {h : Heap} {v : V} {cs : List V} {n k : Nat} {ys : List V} {bytes : Nat} (hv : GrN e b h v cs n) (hn : b <= h.next) (hy : ys.length = k * e) (h1 : ys.all V.one = true) (hb : (n + k) * bytes <= 140737488355328) :
  ∃ v' h',appendV h e bytes v ys k = some (v',h') /\ GrN e b h' v' (cs ++ ys) (n + k) /\ But (fun o => rOb v = some o) h h' /\ (rOb v' = rOb v \/ rOb v' = some h.next) := by
 obtain ⟨e',rfl⟩ : ∃ e',e = e' + 1 := ⟨e - 1,by omega⟩
 unfold appendV
 cases k with
 | zero =>
  rw [Nat.zero_mul] at hy
  have := List.eq_nil_of_length_eq_zero hy
  subst this
  rw [List.append_nil]
  rcases hv with ⟨rfl,rfl,rfl⟩ | ⟨o,g,r,h2,h3,rfl,h4⟩
  ·exact ⟨_,_,rfl,.inl ⟨rfl,rfl,rfl⟩,But.refl _ _,.inl rfl⟩
  ·exact ⟨_,_,rfl,.inr ⟨o,g,r,h2,h3,rfl,h4⟩,But.refl _ _,.inl rfl⟩
 | succ k =>
  have hbound : Nat.ble ((n + (k + 1)) * bytes) 140737488355328 = true := Nat.ble_eq_true_of_le hb
  rcases hv with ⟨rfl,rfl,rfl⟩ | ⟨o,g,r,h2,h3,rfl,hc,hg⟩
  ·simp only [Nat.zero_add] at hbound
   simp only [hbound,List.nil_append]
   refine ⟨_,_,rfl,.inr ⟨h.next,0,[],hn,Nat.lt_succ_self _,?_,by rw [hy,Nat.zero_add],?_⟩,(Ext.push _ _).but _,.inr rfl⟩
   ·rw [Nat.zero_add]
   ·rw [nCs,Heap.get_push,if_pos rfl]
    rfl
  ·have hcl : h.cells? o = some { cs := cs,g := g,lens := cs.length :: r,ro := false,esz := e' + 1,spare := true } := by
    unfold Heap.cells?
    rw [hg]
    rfl
   have hno : Nat.ble (0 + (n + (k + 1)) * (e' + 1)) cs.length = false := by
    cases q : Nat.ble (0 + (n + (k + 1)) * (e' + 1)) cs.length with
    | false => rfl
    | true =>
     have := Nat.le_of_ble_eq_true q
     rw [hc,Nat.add_mul,Nat.add_mul k] at this
     omega
   have hrd : rCs h o g 0 (n * (e' + 1)) = some cs := by
    rw [readCells_grownE hg (by omega),List.drop_zero, <- hc,List.take_length]
   simp only [hcl,Nat.beq_refl,Bool.and_self,Bool.not_false,hno,hrd,hbound,h1]
   refine ⟨_,_,rfl,.inr ⟨o,g + 1,_,h2,h3,rfl,by rw [List.length_append,hc,hy, <- Nat.add_mul],by rw [Heap.get_put,if_pos rfl]; rfl⟩,⟨Nat.le_refl _,fun o' ho' hs => ?_⟩,.inl rfl⟩
   rw [Heap.get_put,if_neg]
   rintro rfl
   exact hs rfl
theorem x_append_grn {e b : Nat} (he : 0 < e) {h : Heap} {v w : V} {cs ys : List V} {n k bytes : Nat} {K : V -> Heap -> Prop} (hv : GrN e b h v cs n) (hn : b <= h.next) (hw : El e h w k ys) (h1 : ys.all V.one = true) (hb : (n + k) * bytes <= 140737488355328)
  (hk : ∀ v' h',GrN e b h' v' (cs ++ ys) (n + k) -> But (fun o => rOb v = some o) h h' -> (rOb v' = rOb v \/ rOb v' = some h.next) -> K v' h') : XAppend h e bytes v w K := by
 obtain ⟨w1,w2,w3⟩ := hw
 obtain ⟨v',h',eq,a1,a2,a3⟩ := append_grnk he hv hn w3 h1 hb
 have happ : oEv (.append e bytes (.const v) (.const w)) (rd .lf) h = some (v',h') := by
  simp only [oEv,rd,w1,w2,w3,Nat.beq_refl]
  exact eq
 unfold XAppend
 rw [happ]
 exact hk v' h' a1 a2 a3
theorem El.new {e : Nat} {h : Heap} {o : Nat} {cs : List V} {sp : Bool} {cap : Cap} (hg : h.get o = some (arr cs e sp)) (hl : cs.length = e) : El e h (.slice o 0 0 1 cap) 1 cs := by
 refine ⟨rfl,?_,by rw [Nat.one_mul]; exact hl⟩
 simp only [elemsOf,Nat.one_mul]
 rw [readCells_arr hg (by omega),List.drop_zero, <- hl,List.take_length]
theorem slcE_eq {e : Nat} {h : Heap} {v : V} {k k' : IntKind} {lo hi : Option Int} {r : V} {K : V -> Heap -> Prop} (hlo : ∀ x,lo = some x -> 0 <= x) (hhi : ∀ x,hi = some x -> 0 <= x)
  (hr : sliceV h e v (lo.map Int.toNat) (hi.map Int.toNat) none = some r) (hk : K r h) : XSlc h e v (lo.map (.int k)) (hi.map (.int k')) none K := by
 have e : oEv (.slc e (.const v) ((lo.map (V.int k)).map .const) ((hi.map (V.int k')).map .const) (none.map .const)) (rd .lf) h = some (r,h) := by
  cases lo with
  | none =>
   cases hi with
   | none => simp only [oEv,Option.map_none,optNat,rd]; simp only [Option.map_none] at hr; rw [hr]
   | some b => simp only [oEv,Option.map_none,Option.map_some,optNat,rd,asNat_int (hhi b rfl)]; simp only [Option.map_none,Option.map_some] at hr; rw [hr]
  | some a =>
   cases hi with
   | none => simp only [oEv,Option.map_none,Option.map_some,optNat,rd,asNat_int (hlo a rfl)]; simp only [Option.map_none,Option.map_some] at hr; rw [hr]
   | some b => simp only [oEv,Option.map_none,Option.map_some,optNat,rd,asNat_int (hlo a rfl),asNat_int (hhi b rfl)]; simp only [Option.map_some] at hr; rw [hr]
 unfold XSlc
 rw [e]
 exact hk
theorem GrN.hi {e b : Nat} {h : Heap} {v : V} {cs : List V} {n : Nat} (hv : GrN e b h v cs n) {k : IntKind} {i : Int} {K : V -> Heap -> Prop} (h0 : 0 <= i) (h1 : i <= n) (hk : ∀ r,El e h r i.toNat (cs.take (i.toNat * e)) -> K r h) : XSlc h e v none (some (.int k i)) none K := by
 rcases hv with ⟨rfl,rfl,rfl⟩ | ⟨o,g,r,_,_,rfl,hc,hg⟩
 ·have : i = 0 := by omega
  subst this
  exact slcE_eq (lo := none) (hi := some 0) (k := k) (fun x hx => by cases hx) (fun x hx => by cases hx; omega) (r := .nils) rfl (hk _ ⟨rfl,by simp [elemsOf],by simp⟩)
 ·have hle : i.toNat * e <= cs.length := by
   rw [hc]
   exact Nat.mul_le_mul_right _ (by omega)
  refine slcE_eq (lo := none) (hi := some i) (k := k) (fun x hx => by cases hx) (fun x hx => by cases hx; omega) (r := .slice o g 0 i.toNat (.rest 0 e)) ?_ (hk _ ⟨rfl,?_,by rw [List.length_take]; omega⟩)
  ·simp only [sliceV,Option.map_some,Option.map_none,Option.getD_some,Option.getD_none,Nat.beq_refl,Nat.ble_eq_true_of_le (Nat.zero_le i.toNat),Nat.ble_eq_true_of_le (show i.toNat <= n by omega),Bool.and_self,Bool.true_or,Nat.zero_mul,Nat.add_zero,Nat.sub_zero]
  ·simp only [elemsOf]
   cases hi : i.toNat with
   | zero => simp
   | succ m =>
    simp only
    rw [hi] at hle
    rw [readCells_grownE hg (by omega),List.drop_zero]
theorem GrN.lo {e b : Nat} {h : Heap} {v : V} {cs : List V} {n : Nat} (hv : GrN e b h v cs n) {k : IntKind} {i : Int} {K : V -> Heap -> Prop} (h0 : 0 <= i) (h1 : i <= n) (hk : ∀ r,El e h r (n - i.toNat) (cs.drop (i.toNat * e)) -> K r h) : XSlc h e v (some (.int k i)) none none K := by
 rcases hv with ⟨rfl,rfl,rfl⟩ | ⟨o,g,r,_,_,rfl,hc,hg⟩
 ·have : i = 0 := by omega
  subst this
  exact slcE_eq (lo := some 0) (hi := none) (k' := k) (fun x hx => by cases hx; omega) (fun x hx => by cases hx) (r := .nils) rfl (hk _ ⟨rfl,by simp [elemsOf],by simp⟩)
 ·have hlen : (cs.drop (i.toNat * e)).length = (n - i.toNat) * e := by
   rw [List.length_drop,hc,Nat.sub_mul]
  refine slcE_eq (lo := some i) (hi := none) (k' := k) (fun x hx => by cases hx; omega) (fun x hx => by cases hx) (r := .slice o g (0 + i.toNat * e) (n - i.toNat) (.rest (0 + i.toNat) e)) ?_ (hk _ ⟨rfl,?_,hlen⟩)
  ·simp only [sliceV,Option.map_some,Option.map_none,Option.getD_some,Option.getD_none,Nat.beq_refl,Nat.ble_eq_true_of_le (show i.toNat <= n by omega),Nat.ble_eq_true_of_le (Nat.le_refl n),Bool.and_self,Bool.true_or]
  ·simp only [elemsOf]
   cases hi : n - i.toNat with
   | zero =>
    rw [hi,Nat.zero_mul] at hlen
    rw [List.eq_nil_of_length_eq_zero hlen]
   | succ m =>
    simp only
    have hle : i.toNat * e + (m + 1) * e <= cs.length := by
     rw [hc, <- Nat.add_mul]
     exact Nat.mul_le_mul_right _ (by omega)
    rw [readCells_grownE hg (by omega),Nat.zero_add,List.take_of_length_le (by rw [hlen,hi]; exact Nat.le_refl _)]
theorem Tk.ext {b : Nat} {h h' : Heap} {v : V} {xs : List V} (hs : Tk b h v xs) (x : Ext h h') : Tk b h' v xs := by
 rcases hs with hs | ⟨o,g,r,cs,h1,h2,rfl,h3,h4⟩
 ·exact .inl hs
 ·exact .inr ⟨o,g,r,cs,h1,Nat.lt_of_lt_of_le h2 x.next,rfl,by rw [x.get o h2]; exact h3,h4⟩
theorem Tk.lt {b : Nat} {h : Heap} {v : V} {xs : List V} (hs : Tk b h v xs) {o : Nat} (ho : rOb v = some o) : b <= o /\ o < h.next := by
 rcases hs with ⟨rfl,_⟩ | ⟨o',g,r,cs,h1,h2,rfl,_⟩
 ·cases ho
 ·cases ho; exact ⟨h1,h2⟩
theorem GrN.ext {e b : Nat} {h h' : Heap} {v : V} {cs : List V} {n : Nat} (hs : GrN e b h v cs n) (x : Ext h h') : GrN e b h' v cs n := by
 rcases hs with hs | ⟨o,g,r,h1,h2,rfl,h3,h4⟩
 ·exact .inl hs
 ·exact .inr ⟨o,g,r,h1,Nat.lt_of_lt_of_le h2 x.next,rfl,h3,by rw [x.get o h2]; exact h4⟩
theorem GrN.lt {e b : Nat} {h : Heap} {v : V} {cs : List V} {n : Nat} (hs : GrN e b h v cs n) {o : Nat} (ho : rOb v = some o) : b <= o /\ o < h.next := by
 rcases hs with ⟨rfl,_⟩ | ⟨o',g,r,h1,h2,rfl,_⟩
 ·cases ho
 ·cases ho; exact ⟨h1,h2⟩
theorem Ext.butI {S : Nat -> Prop} {a b c : Heap} (h1 : Ext a b) (h2 : But S b c) (hs : ∀ o,o < a.next -> ¬ S o) : Ext a c := ⟨Nat.le_trans h1.next h2.next,fun o ho => (h2.get o (Nat.lt_of_lt_of_le ho h1.next) (hs o ho)).trans (h1.get o ho)⟩
theorem Sl.stay {h h' : Heap} {v : V} {vs : List V} (hs : Sl h v vs) (hn : h.next <= h'.next) (hg : ∀ o,rOb v = some o -> o < h.next -> h'.get o = h.get o) : Sl h' v vs := by
 rcases hs with hs | ⟨o,g,off,cap,rfl,h2⟩
 ·exact .inl hs
 ·exact .inr ⟨o,g,off,cap,rfl,fun hp => ⟨Nat.lt_of_lt_of_le (h2 hp).1 hn,by rw [readCells_get (hg o rfl (h2 hp).1)]; exact (h2 hp).2⟩⟩
theorem sl_new {h : Heap} {o : Nat} {v : V} {sp : Bool} (hg : h.get o = some (arr [v] 1 sp)) (ho : o < h.next) : Sl h (.slice o 0 0 1 (.exact 1)) [v] := .inr ⟨o,0,0,_,rfl,fun _ => ⟨ho,by rw [readCells_arr hg (by simp)]; rfl⟩⟩
end Go.Xr
namespace Go.Xr
theorem Sw.sliceX {h g' : Heap} {v : V} {vs : List V} (hs : Sw h v vs) {lo hi : Option Nat} (h1 : lo.getD 0 <= hi.getD vs.length) (h2 : hi.getD vs.length <= vs.length) : ∃ r,sliceV g' 1 v lo hi none = some r /\ Sw h r ((vs.take (hi.getD vs.length)).drop (lo.getD 0)) := by
 rcases hs with ⟨rfl,rfl⟩ | ⟨o,g,off,cap,rfl,hc,hr⟩
 ·have e1 : hi.getD 0 = 0 := by simpa using h2
  have e2 : lo.getD 0 = 0 := by simp only [List.length_nil] at h1; omega
  exact ⟨.nils,by simp [sliceV,e1,e2],.inl ⟨rfl,by simp⟩⟩
 ·generalize hb : hi.getD vs.length = b at *
  generalize ha : lo.getD 0 = a at *
  have hlen : ((vs.take b).drop a).length = b - a := by simp; omega
  cases cap with
  | exact c =>
   simp only [capOk] at hc
   refine ⟨.slice o g (match Nat.beq c a with | true => off | false => off + a * 1) (b - a) (.exact (c - a)),by simp only [sliceV,Option.getD_none,hb,ha,Nat.ble_eq_true_of_le (Nat.le_refl c),Nat.ble_eq_true_of_le (show b <= c by omega),Nat.ble_eq_true_of_le h1,Bool.and_self] <;> rfl,.inr ⟨o,g,_,.exact (c - a),by rw [hlen],by simp only [capOk]; omega,fun hp => ?_⟩⟩
   rw [hlen] at hp ⊢
   have hb' : Nat.beq c a = false := by
    cases hx : Nat.beq c a with
    | false => rfl
    | true => have := Nat.eq_of_beq_eq_true hx; omega
   obtain ⟨q1,q2⟩ := hr (by omega)
   refine ⟨q1,?_⟩
   rw [hb']
   simp only [Nat.mul_one]
   rw [readCells_part q2 (by omega),List.drop_take]
  | rest n e =>
   simp only [capOk] at hc
   subst hc
   refine ⟨.slice o g (off + a * 1) (b - a) (.rest (n + a) 1),by simp only [sliceV,hb,ha,Nat.beq_refl,Nat.ble_eq_true_of_le h1,Bool.and_self,Nat.ble_eq_true_of_le h2,Bool.true_or],.inr ⟨o,g,_,.rest (n + a) 1,by rw [hlen],rfl,fun hp => ?_⟩⟩
   rw [hlen] at hp ⊢
   obtain ⟨q1,q2⟩ := hr (by omega)
   refine ⟨q1,?_⟩
   simp only [Nat.mul_one]
   rw [readCells_part q2 (by omega),List.drop_take]
theorem x_sw_loX {h g : Heap} {v : V} {vs : List V} (hs : Sw h v vs) {k : IntKind} {i : Int} {K : V -> Heap -> Prop} (h0 : 0 <= i) (h1 : i <= vs.length) (hk : ∀ r,Sw h r (vs.drop i.toNat) -> K r g) : XSlc g 1 v (some (.int k i)) none none K := by
 obtain ⟨r,e,q⟩ := hs.sliceX (g' := g) (lo := some i.toNat) (hi := none) (by simp; omega) (by simp)
 refine slc_eq (lo := some i) (hi := none) (k' := k) (fun x hx => by cases hx; exact h0) (fun x hx => by cases hx) e (hk r ?_)
 simpa using q
theorem x_sw_hiX {h g : Heap} {v : V} {vs : List V} (hs : Sw h v vs) {k : IntKind} {i : Int} {K : V -> Heap -> Prop} (h0 : 0 <= i) (h1 : i <= vs.length) (hk : ∀ r,Sw h r (vs.take i.toNat) -> K r g) : XSlc g 1 v none (some (.int k i)) none K := by
 obtain ⟨r,e,q⟩ := hs.sliceX (g' := g) (lo := none) (hi := some i.toNat) (by simp) (by simp; omega)
 refine slc_eq (lo := none) (hi := some i) (k := k) (fun x hx => by cases hx) (fun x hx => by cases hx; exact h0) e (hk r ?_)
 simpa using q
theorem st_step {h : Heap} {o off : Nat} {cs : List V} {v : V} {sp : Bool} {K : Heap -> Prop} (hg : h.get o = some (arr cs 1 sp)) (hi : off < cs.length) (hv : v.one = true)
  (hk : ∀ H,H.get o = some (arr (cs.set off v) 1 sp) -> H.next = h.next -> (∀ x,x ≠ o -> H.get x = h.get x) -> K H) : ∃ h',writeCells h o 0 off [v] = some h' /\ K h' :=
 ⟨_,writeCell hg hi hv,hk _ (by rw [Heap.get_put,if_pos rfl]) rfl fun x hx => by rw [Heap.get_put,if_neg (fun e => hx e)]⟩
theorem one_row {v : V} (h : rowS v = true) : v.one = true := by cases v <;> first | rfl | cases h
end Go.Xr
namespace Go.Chk
def valOf (tr : List Int) (v : Nat) : Int := if (v : Int) ∈ tr then 1 else if -(v : Int) ∈ tr then -1 else 0
def litVal (tr : List Int) (l : Int) : Int := if l ∈ tr then 1 else if -l ∈ tr then -1 else 0
structure Goodly (vs tr : List Int) : Prop where
 val : ∀ v (hv : v < vs.length),vs[v] = valOf tr v
 lt : ∀ x ∈ tr,x ≠ 0 /\ x.natAbs < vs.length
 cons : ∀ x ∈ tr, -x ∉ tr
 nodup : tr.Nodup
 len : vs.length <= 1048577
theorem Goodly.none {vs tr : List Int} (h : Goodly vs tr) {l : Int} (hl : vs.length <= l.natAbs) : litVal tr l = 0 := by
 unfold litVal
 rw [if_neg fun q => by have := (h.lt _ q).2; omega,if_neg fun q => by have := (h.lt _ q).2; omega]
theorem Goodly.neg {vs tr : List Int} (h : Goodly vs tr) {l : Int} (h0 : l < 0) (hl : l.natAbs < vs.length) : -vs[l.natAbs] = litVal tr l := by
 rw [h.val _ hl]
 unfold valOf litVal
 have e1 : ((l.natAbs : Nat) : Int) = -l := by omega
 rw [e1,Int.neg_neg]
 by_cases h1 : l ∈ tr
 ·rw [if_pos h1,if_neg (h.cons _ h1),if_pos h1]
  rfl
 ·rw [if_neg h1,if_neg h1]
  split <;> rfl
theorem Goodly.pos {vs tr : List Int} (h : Goodly vs tr) {l : Int} (h0 : 0 <= l) (hl : l.natAbs < vs.length) : vs[l.natAbs] = litVal tr l := by
 rw [h.val _ hl]
 unfold valOf litVal
 have e1 : ((l.natAbs : Nat) : Int) = l := by omega
 rw [e1]
theorem Goodly.grow {vs tr : List Int} (h : Goodly vs tr) {k : Nat} (hk : vs.length + k <= 1048577) : Goodly (vs ++ List.replicate k 0) tr := by
 refine ⟨fun v hv => ?_,fun x hx => ?_,h.cons,h.nodup,by simp; omega⟩
 ·by_cases hlt : v < vs.length
  ·rw [List.getElem_append_left hlt,h.val v hlt]
  ·rw [List.getElem_append_right (by omega),List.getElem_replicate]
   unfold valOf
   rw [if_neg fun q => by have := (h.lt _ q).2; omega,if_neg fun q => by have := (h.lt _ q).2; omega]
 ·have := h.lt x hx
  simp
  omega
theorem Goodly.set {vs tr : List Int} (h : Goodly vs tr) {l : Int} (h0 : l ≠ 0) (hl : l.natAbs < vs.length) (h1 : l ∉ tr) (h2 : -l ∉ tr) : Goodly (vs.set l.natAbs (if l < 0 then -1 else 1)) (tr ++ [l]) := by
 refine ⟨fun v hv => ?_,fun x hx => ?_,fun x hx => ?_,?_,by simpa using h.len⟩
 ·rw [List.length_set] at hv
  rw [List.getElem_set]
  unfold valOf
  simp only [List.mem_append,List.mem_singleton]
  by_cases hvl : l.natAbs = v
  ·rw [if_pos hvl]
   by_cases hn : l < 0
   ·rw [if_pos hn,if_neg,if_pos (.inr (by omega))]
    rintro (q | q)
    ·exact h2 (by rw [show -l = (v : Int) by omega]; exact q)
    ·omega
   ·rw [if_neg hn,if_pos (.inr (by omega))]
  ·rw [if_neg hvl,h.val v hv]
   unfold valOf
   have e1 : ((v : Int) ∈ tr \/ (v : Int) = l) ↔ (v : Int) ∈ tr := ⟨fun q => q.elim id fun q => by omega,.inl⟩
   have e2 : (-(v : Int) ∈ tr \/ -(v : Int) = l) ↔ -(v : Int) ∈ tr := ⟨fun q => q.elim id fun q => by omega,.inl⟩
   simp only [e1,e2]
 ·rw [List.length_set]
  rcases List.mem_append.1 hx with hx | hx
  ·exact h.lt x hx
  ·rw [List.mem_singleton] at hx
   subst hx
   exact ⟨h0,hl⟩
 ·rw [List.mem_append,List.mem_singleton]
  rcases List.mem_append.1 hx with hx | hx
  ·rintro (q | q)
   ·exact h.cons x hx q
   ·exact h2 (by rw [<- q,Int.neg_neg]; exact hx)
  ·rw [List.mem_singleton] at hx
   subst hx
   rintro (q | q)
   ·exact h2 q
   ·omega
 ·rw [List.nodup_append]
  refine ⟨h.nodup,by simp,fun x hx y hy => ?_⟩
  rw [List.mem_singleton] at hy
  subst hy
  rintro rfl
  exact h1 hx
def Taken (vs tr : List Int) (n i : Nat) : Prop := ∀ v (hv : v < vs.length),vs[v] = if ∃ x ∈ (tr.drop n).take i,x.natAbs = v then 0 else valOf tr v
theorem Goodly.taken {vs tr : List Int} (h : Goodly vs tr) (n : Nat) : Taken vs tr n 0 := fun v hv => by
 rw [if_neg (by simp),h.val v hv]
theorem Taken.next {vs tr : List Int} {n i : Nat} (h : Taken vs tr n i) (hi : n + i < tr.length) : Taken (vs.set (tr[n + i]).natAbs 0) tr n (i + 1) := fun v hv => by
 rw [List.length_set] at hv
 have et : (tr.drop n).take (i + 1) = (tr.drop n).take i ++ [tr[n + i]] := by
  rw [List.take_add_one,List.getElem?_drop,List.getElem?_eq_getElem hi]
  rfl
 rw [List.getElem_set,et]
 split
 ·rename_i e
  rw [if_pos ⟨_,List.mem_append_right _ (List.mem_singleton.2 rfl),e⟩]
 ·rename_i e
  rw [h v hv]
  have : (∃ x ∈ (tr.drop n).take i ++ [tr[n + i]],x.natAbs = v) ↔ ∃ x ∈ (tr.drop n).take i,x.natAbs = v := by
   constructor
   ·rintro ⟨x,hx,hv⟩
    rcases List.mem_append.1 hx with hx | hx
    ·exact ⟨x,hx,hv⟩
    ·rw [List.mem_singleton] at hx
     subst hx
     exact absurd hv e
   ·rintro ⟨x,hx,hv⟩
    exact ⟨x,List.mem_append_left _ hx,hv⟩
  simp only [this]
theorem Taken.good {vs vs' tr : List Int} {n : Nat} (h : Goodly vs tr) (hl : vs'.length = vs.length) (ht : Taken vs' tr n (tr.length - n)) : Goodly vs' (tr.take n) := by
 have hsub : ∀ x ∈ tr.take n,x ∈ tr := fun x hx => List.mem_of_mem_take hx
 refine ⟨fun v hv => ?_,fun x hx => by rw [hl]; exact h.lt x (hsub x hx),fun x hx q => h.cons x (hsub x hx) (hsub _ q),h.nodup.sublist (List.take_sublist _ _),by rw [hl]; exact h.len⟩
 rw [ht v hv,List.take_of_length_le (by simp)]
 have hsplit : ∀ x,x ∈ tr ↔ x ∈ tr.take n \/ x ∈ tr.drop n := fun x => by
  conv => lhs; rw [<- List.take_append_drop n tr]
  exact List.mem_append
 have hdis : ∀ x,x ∈ tr.take n -> x ∉ tr.drop n := fun x h1 h2 => by
  have hn := h.nodup
  rw [<- List.take_append_drop n tr,List.nodup_append] at hn
  exact hn.2.2 x h1 x h2 rfl
 split
 ·rename_i hx
  obtain ⟨x,hx,rfl⟩ := hx
  have hxt := (hsplit x).2 (.inr hx)
  have h0 := (h.lt x hxt).1
  have hne : ∀ y ∈ tr.take n,y.natAbs ≠ x.natAbs := fun y hy e => by
   rcases (by omega : y = x \/ y = -x) with q | q
   ·exact hdis y hy (q ▸ hx)
   ·exact h.cons x hxt (q ▸ hsub y hy)
  unfold valOf
  rw [if_neg fun q => hne _ q (by omega),if_neg fun q => hne _ q (by omega)]
 ·rename_i hx
  unfold valOf
  have e : ∀ y : Int,y.natAbs = v -> (y ∈ tr ↔ y ∈ tr.take n) := fun y hy => by
   rw [hsplit y]
   exact ⟨fun q => q.elim id fun q => absurd ⟨y,q,hy⟩ hx,.inl⟩
  simp only [e _ (show ((v : Nat) : Int).natAbs = v by omega),e _ (show (-((v : Nat) : Int)).natAbs = v by omega)]
end Go.Chk
namespace Go.Xr
open Go.RowKit
theorem tr_cap {n : Nat} {a : Addr} {len cap o g off l : Nat} {cp : Cap} (h : tr n (.slice (some a) len cap) = .slice o g off l cp) (hn : 0 < n) : capOk cp l /\ o < n := by
 rw [tr_slice] at h
 split at h
 ·rename_i q
  cases h
  exact ⟨q.2.2,q.2.1⟩
 ·split at h
  ·cases h
   exact ⟨Nat.le_refl 0,hn⟩
  ·cases h
theorem tr_row {n : Nat} {c : Value} (hc : c = .slice none 0 0 \/ ∃ a len cap,c = .slice (some a) len cap) (hn : 0 < n) {x : Nat} (h : rOb (tr n c) = some x) : x < n := by
 rcases hc with rfl | ⟨a,len,cap,rfl⟩
 ·rw [tr_nil] at h; cases h
 ·cases ht : tr n (.slice (some a) len cap) <;> rw [ht] at h <;> try (cases h; done)
  cases h
  exact (tr_cap ht hn).2
theorem sw_of_sl {h : Heap} {n : Nat} {c : Value} {vs : List V} (hc : c = .slice none 0 0 \/ ∃ a len cap,c = .slice (some a) len cap) (hn : 0 < n) (hs : Sl h (tr n c) vs) : Sw h (tr n c) vs := by
 rcases hs with hs | ⟨o,g,off,cp,h1,h2⟩
 ·exact .inl hs
 ·refine .inr ⟨o,g,off,cp,h1,?_,h2⟩
  rcases hc with rfl | ⟨a,len,cap,rfl⟩
  ·rw [tr_nil] at h1; cases h1
  ·exact (tr_cap h1 hn).1
theorem mapM_get {α β : Type} {f : α -> Option β} : ∀ {l : List α} {r : List β},l.mapM f = some r -> r.length = l.length /\ ∀ i (h1 : i < l.length) (h2 : i < r.length),f l[i] = some r[i]
 | [],r,h => by
  simp only [List.mapM_nil,pure,Option.some.injEq] at h
  subst h
  exact ⟨rfl,fun i h1 => by simp at h1⟩
 | a :: l,r,h => by
  rw [List.mapM_cons] at h
  simp only [bind,Option.bind_eq_some_iff,pure,Option.some.injEq] at h
  obtain ⟨y,h1,ys,h2,rfl⟩ := h
  obtain ⟨e1,e2⟩ := mapM_get h2
  refine ⟨by simp [e1],fun i q1 q2 => ?_⟩
  cases i with
  | zero => exact h1
  | succ i => exact e2 i (by simpa using q1) (by simpa using q2)
section
variable {H : Type} {enc : TypeId × Value -> H} {P : Program} {w : World}
theorem add_block (a : Addr) (i : Nat) : (a.add i).block = a.block := by unfold Addr.add; split <;> rfl
theorem add_off (a : Addr) (i : Nat) : (a.add i).off = a.off + i := by
 unfold Addr.add
 split
 ·rename_i h; subst h; rfl
 ·rfl
theorem cell_at {a : Addr} {v : Value} (h : w.cell? a = some v) : ∃ arr t fz,a.spot = none /\ w.heap[a.block]? = some (.cells arr t fz) /\ arr[a.off]? = some v := by
 unfold World.cell? at h
 split at h
 ·rename_i arr t fz e
  split at h
  ·cases h
  ·rename_i hs
   exact ⟨arr,t,fz,by simpa using hs,e,h⟩
 ·cases h
theorem cells_n {base : Nat} {a : Addr} {n : Nat} {vs : List Value} (h : w.cells? base a n = some vs) : vs.length = n /\ ∀ i (hi : i < vs.length),w.cell? (a.add i) = some vs[i] := by
 unfold World.cells? at h
 split at h
 ·obtain ⟨e1,e2⟩ := mapM_get h
  rw [List.length_range] at e1
  refine ⟨e1,fun i hi => ?_⟩
  have := e2 i (by rw [List.length_range]; omega) hi
  rwa [List.getElem_range] at this
 ·cases h
theorem first_sliceE {base : Nat} {sp : Nat -> Bool} {held : Bool} {m : Nat} {t e : TypeId} {k : Nat} {c : Value} {d : DataW H} {ps : List MemPlace} (hsp : ∀ b,sp b = true) (ht : P.underlying t = some (.slice e)) (he : P.cellsOf e = k) (hk : 0 < k) (h : DataW.trod enc P w base sp held m t [c] = some (d,ps)) :
  ∃ xss : List (List Value),SlE k (first w) (tr w.heap.size c) (xss.map fun xs => xs.map (tr w.heap.size)) /\ ∀ xs ∈ xss,xs.length = k /\ ∃ m' y,DataW.trod enc P w base sp held m' e xs = some y := by
 rcases trod_slice hsp ht h with rfl | ⟨a,len,cap,m',rfl,h1,h1',h2⟩
 ·exact ⟨[],⟨by rw [tr_nil]; rfl,by rw [tr_nil]; rfl,fun i hi => by simp at hi⟩,fun x hx => by cases hx⟩
 ·rw [he] at h2
  by_cases hl : len = 0
  ·subst hl
   have : ∃ o g off cp,tr w.heap.size (.slice (some a) 0 cap) = .slice o g off 0 cp \/ tr w.heap.size (.slice (some a) 0 cap) = .any := by
    rw [tr_slice]
    split
    ·exact ⟨_,_,_,_,.inl rfl⟩
    ·split
     ·exact ⟨_,_,_,_,.inl rfl⟩
     ·exact ⟨0,0,0,.exact 0,.inr rfl⟩
   by_cases hcap : cap = 0
   ·subst hcap
    have : ∃ o g off cp,tr w.heap.size (.slice (some a) 0 0) = .slice o g off 0 cp := by
     rw [tr_slice]
     split
     ·exact ⟨_,_,_,_,rfl⟩
     ·rw [if_pos ⟨rfl,rfl⟩]
      exact ⟨_,_,_,_,rfl⟩
    obtain ⟨o,g,off,cp,e⟩ := this
    exact ⟨[],⟨by rw [e]; rfl,by rw [e]; rfl,fun i hi => by simp at hi⟩,fun x hx => by cases hx⟩
   ·obtain ⟨vs,x,q1,q2⟩ := h2 0 (by omega)
    obtain ⟨e1,e2⟩ := cells_n q1
    obtain ⟨arr,t0,fz,s1,s2,s3⟩ := cell_at (e2 0 (by omega))
    have ea : (a.add (0 * k)).add 0 = a := by simp [Addr.add]
    rw [ea] at s1 s2
    have hs := s1
    have hb := (Array.getElem?_eq_some_iff.1 s2).1
    have e : tr w.heap.size (.slice (some a) 0 cap) = .slice a.block 0 a.off 0 (.exact cap) := by rw [tr_slice,if_pos ⟨hs,hb,Nat.zero_le _⟩]
    exact ⟨[],⟨by rw [e]; rfl,by rw [e]; rfl,fun i hi => by simp at hi⟩,fun x hx => by cases hx⟩
  ·have hall : ∀ i,i < len -> ∃ vs,vs.length = k /\ (∃ y,DataW.trod enc P w base sp held m' e vs = some y) /\ ∀ j (hj : j < vs.length),w.cell? ((a.add (i * k)).add j) = some vs[j] := fun i hi => by
    obtain ⟨vs,x,q1,q2⟩ := h2 i (by omega)
    obtain ⟨e1,e2⟩ := cells_n q1
    exact ⟨vs,e1,⟨x,q2⟩,e2⟩
   obtain ⟨vs0,f1,_,f3⟩ := hall 0 (by omega)
   obtain ⟨arr,t0,fz,s1,s2,s3⟩ := cell_at (f3 0 (by omega))
   have ea : (a.add (0 * k)).add 0 = a := by simp [Addr.add]
   rw [ea] at s1 s2
   have hs := s1
   have hb := (Array.getElem?_eq_some_iff.1 s2).1
   have e0 : tr w.heap.size (.slice (some a) len cap) = .slice a.block 0 a.off len (.exact cap) := by rw [tr_slice,if_pos ⟨hs,hb,h1⟩]
   have hat : ∀ i,i < len -> ∀ vs : List Value,vs.length = k -> (∀ j (hj : j < vs.length),w.cell? ((a.add (i * k)).add j) = some vs[j]) -> ∀ j (hj : j < vs.length),arr[a.off + i * k + j]? = some vs[j] := fun i hi vs g1 g3 j hj => by
    obtain ⟨arr',t',fz',r1,r2,r3⟩ := cell_at (g3 j hj)
    rw [add_block,add_block,s2] at r2
    cases r2
    rwa [add_off,add_off] at r3
   have hch : ∀ n,n <= len -> ∃ xss : List (List Value),xss.length = n /\ ∀ i (hi : i < xss.length),xss[i].length = k /\ (∃ y,DataW.trod enc P w base sp held m' e xss[i] = some y) /\ ∀ j (hj : j < xss[i].length),arr[a.off + i * k + j]? = some xss[i][j] := by
    intro n
    induction n with
    | zero => intro _; exact ⟨[],rfl,fun i hi => by simp at hi⟩
    | succ n ih =>
     intro hn
     obtain ⟨xss,q1,q2⟩ := ih (by omega)
     obtain ⟨vs,g1,g2,g3⟩ := hall n (by omega)
     refine ⟨xss ++ [vs],by simp [q1],fun i hi => ?_⟩
     rw [List.length_append,List.length_singleton] at hi
     by_cases hlt : i < xss.length
     ·rw [List.getElem_append_left hlt]
      exact q2 i hlt
     ·have : i = n := by omega
      subst this
      rw [List.getElem_append_right (by omega)]
      simp only [q1,Nat.sub_self,List.getElem_cons_zero]
      exact ⟨g1,g2,hat i (by omega) vs g1 g3⟩
   obtain ⟨xss,q1,q2⟩ := hch len (Nat.le_refl _)
   refine ⟨xss,⟨by rw [e0]; rfl,by rw [e0,List.length_map,q1]; rfl,fun i hi => ?_⟩,fun xs hxs => ?_⟩
   ·rw [List.length_map] at hi
    obtain ⟨g1,_,g3⟩ := q2 i hi
    rw [e0]
    simp only [objS_slice,genS_slice,offS_slice,List.getElem_map,List.length_map]
    refine ⟨by rw [first_next]; exact hb,g1,?_⟩
    have hsz : a.off + i * k + k <= arr.size := by
     have := (Array.getElem?_eq_some_iff.1 (g3 (k - 1) (by omega))).1
     omega
    rw [first_read s2 hsz]
    congr 2
    apply List.ext_getElem?
    intro j
    rw [List.getElem?_take]
    by_cases hj : j < k
    ·rw [if_pos hj,List.getElem?_drop,Array.getElem?_toList,g3 j (by omega),List.getElem?_eq_getElem (by omega)]
    ·rw [if_neg hj,List.getElem?_eq_none (by omega)]
   ·obtain ⟨i,hi,rfl⟩ := List.getElem_of_mem hxs
    obtain ⟨g1,g2,_⟩ := q2 i hi
    exact ⟨g1,_,g2⟩
theorem choose_all {α β : Type} {p : α -> β -> Prop} : ∀ {l : List α},(∀ x ∈ l, ∃ y,p x y) -> ∃ r : List β,r.length = l.length /\ ∀ i (h1 : i < l.length) (h2 : i < r.length),p l[i] r[i]
 | [],_ => ⟨[],rfl,fun i h1 => by simp at h1⟩
 | a :: l,h => by
  obtain ⟨y,hy⟩ := h a List.mem_cons_self
  obtain ⟨r,e1,e2⟩ := choose_all fun x hx => h x (List.mem_cons_of_mem _ hx)
  refine ⟨y :: r,by simp [e1],fun i h1 h2 => ?_⟩
  cases i with
  | zero => exact hy
  | succ i => exact e2 i (by simpa using h1) (by simpa using h2)
end
end Go.Xr
set_option linter.defProp false
namespace Go.Xr
def sx := And.intro @rd_slot (And.intro @rd_const (And.intro @putOpt_some (And.intro @putOpt_none (And.intro @sSe (And.intro @slotOf_lf (And.intro @argsFrom_cons (And.intro @argsFrom_nil (And.intro @vals_nil (And.intro @vals_cons (And.intro @cellsOf_agg (And.intro @cellsOf_int (And.intro @cellsOf_bool (And.intro @cellsOf_ptr (And.intro @cellsOf_map (And.intro @cellsOf_nilp (And.intro @cellsOf_func (And.intro @cellsOf_row (And.intro @xsome_some (And.intro @condB_true (And.intro @condB_false (And.intro @andThen_normal (And.intro @andThen_exit (And.intro @andThen_ret (And.intro @outOf_normal (And.intro @outOf_exit (And.intro @outOf_ret (And.intro @xfin_ret (And.intro @xfin_normal (And.intro @next_new (And.intro @decide_true (And.intro @decide_false (And.intro @Bool.not_true (And.intro @Bool.not_false (And.intro @Int.ofNat_eq_natCast (And.intro @Int.cast_ofNat_Int (And.intro @true_and (And.intro @and_true (And.intro @Bool.false_eq_true (And.intro @not_true_eq_false (And.intro @not_false_eq_true (And.intro @decide_eq_true_eq (And.intro @decide_eq_false_iff_not (And.intro @Bool.not_eq_true' (And.intro @Nat.mul_one @and_self))))))))))))))))))))))))))))))))))))))))))))
def sb.{u} := And.intro @if_true.{u} (And.intro @if_false.{u} (And.intro @exists_eq_left'.{u} (And.intro @exists_eq_left.{u} (And.intro @ne_eq.{u} @ite_not.{u}))))
def sd.{u} := And.intro @List.cons_append.{u} (And.intro @List.nil_append.{u} (And.intro @List.append_nil.{u} (And.intro @List.cons.injEq.{u} @Option.some.injEq.{u})))
def se.{u,v} := And.intro @Option.map_some.{u,v} @Option.map_none.{u,v}
def Z0 := @s_line
def Z1 := @s_end
def Z2 := @s_seq
def Z3 := @s_region
def Z4 := @s_block
def Z5 := @s_cond
def Z6 := @s_ret
def Z7 := @s_skip
def Z8 := @s_exit
def Z9 := @s_if
def Za := @cBd
def Zb := @cBo
def Zc := @s_lelt
def Zd := @s_lt
def Ze := @s_le
def Zf := @s_again
def sf := And.intro @wrap_i64 (And.intro @Nat.zero_add (And.intro @Nat.add_zero @Int.toNat_natCast))
def sg.{u} := And.intro @List.getElem?_cons_zero.{u} @List.getElem?_cons_succ.{u}
def sh.{u,v} := And.intro @List.map_cons.{u,v} @List.map_nil.{u,v}
def si.{u} := And.intro @List.length_cons.{u} @List.length_nil.{u}
end Go.Xr
