/- X, an executor of the program's compiled code, with its proof: part 2. -/
import Derived.Test.YtmkbnbpblhoekaaGreatW0
import Derived.Orders
namespace Go.Xr
open Go.RowKit
section
variable [RoLim] {P : Program} {K : Nat -> Prop} {w0 : World} {μ μ' : Mu} {h h' : Heap} {w w' : World} {ρ : Rd} {ρ' : Operand -> Value}
theorem op_range_nil (R : Rel P K w0 μ h w) {t e : TypeId} {kd : IntKind} {xo : Operand} (hm : mapOf P t = some (kd,e)) (hx : VR μ .nilm (ρ' xo)) {o : Oper} (ho : o.op = .range t xo) :
  Res P K w0 μ ((execOp ρ' o).run P w) (.iter h.next) (h.push (.miter none 0 [] none)) := by
 obtain ⟨kt,h1,h2⟩ := mapOf_some hm
 generalize hx' : ρ' xo = x' at hx
 cases hx
 refine ⟨_,.pointer (some ⟨w.heap.size,0,none⟩),w.alloc (.mapIter none 0 #[] 0),_,?_,.inl rfl,Mu.le_put ⟨w.heap.size,0,0,1⟩ (R.fresh 0),R.push (w' := w.alloc (.mapIter none 0 #[] 0)) (.miter none 0 [] none) ⟨w.heap.size,0,0,1⟩ rfl rfl rfl rfl rfl rfl ?_ (fun _ _ _ _ _ _ _ q => by cases q),VR.iter (Mu.put_same ..)⟩
 ·unfold execOp
  rw [ho]
  simp only [hx',Instr.range,Sem.run_bind,run_und h1,Result.andThen_ok]
  rfl
 ·exact ⟨_,Mu.put_same ..,0, #[],0,(by show (w.heap.push _)[w.heap.size]? = _; simp)⟩
theorem op_range (R : Rel P K w0 μ h w) {t e : TypeId} {kd k : IntKind} {xo : Operand} {om : Nat} {es : List (Int × V)} {ins : Nat} (hm : mapOf P t = some (kd,e)) (hx : VR μ (.map om) (ρ' xo)) (hg : h.get om = some (.map k es ins)) {o : Oper} (ho : o.op = .range t xo) :
  Res P K w0 μ ((execOp ρ' o).run P w) (.iter h.next) (h.push (.miter (some om) ins [] none)) := by
 obtain ⟨kt,h1,h2⟩ := mapOf_some hm
 obtain ⟨l,es',clock,hl,hb,hmr⟩ := R.mapAt hg
 generalize hx' : ρ' xo = x' at hx
 cases hx with
 | @map _ l2 hl2 =>
  rw [hl] at hl2
  cases hl2
  have hobj := run_getObj (P := P) hb (fun _ _ _ q => by cases q)
  have hltb := (R.dom _ _ _ hl).2
  have hnew : (w.alloc (.mapIter (some l.blk) clock #[] clock)).heap[w.heap.size]? = some (.mapIter (some l.blk) clock #[] clock) := by show (w.heap.push _)[w.heap.size]? = _; simp
  refine ⟨_,.pointer (some ⟨w.heap.size,0,none⟩),w.alloc (.mapIter (some l.blk) clock #[] clock),_,?_,.inl rfl,Mu.le_put ⟨w.heap.size,0,0,1⟩ (R.fresh 0),
   R.push (w' := w.alloc (.mapIter (some l.blk) clock #[] clock)) (.miter (some om) ins [] none) ⟨w.heap.size,0,0,1⟩ rfl rfl rfl rfl rfl rfl ?_ (fun mo ins2 seen cur kd2 es2 ins' q1 q2 => ?_),VR.iter (Mu.put_same ..)⟩
  ·unfold execOp
   rw [ho]
   simp only [hx',Instr.range,Sem.run_bind,run_und h1,Result.andThen_ok,hobj]
   rfl
  ·exact ⟨_,Mu.put_same ..,l,Mu.le_put _ (R.fresh 0) _ _ _ hl,clock, #[],clock,hnew⟩
  ·cases q1
   rw [hg] at q2
   cases q2
   refine ⟨Nat.le_refl _,fun _ => ?_⟩
   intro lm li es'' clock'' hlm hli hw
   rw [Mu.le_put _ (R.fresh 0) _ _ _ hl] at hlm
   cases hlm
   rw [Mu.put_same] at hli
   cases hli
   have hb2 : (w.alloc (.mapIter (some l.blk) clock #[] clock)).heap[l.blk]? = some (.map es' clock) := by
    show (w.heap.push _)[l.blk]? = _
    rw [Array.getElem?_push,if_neg (by omega)]
    exact hb
   rw [hb2] at hw
   cases hw
   exact ⟨#[],hnew,fun e1 _ n _ => by simp,fun k q => by cases q⟩
omit [RoLim] in
theorem find_born {es' : List MapEntry} {st : Nat} {e : MapEntry} (he : e ∈ es') (hs : e.born = st) : ∃ e1,es'.find? (·.born == st) = some e1 /\ e1 ∈ es' /\ e1.born = st := by
 cases hf : es'.find? (·.born == st) with
 | none =>
  rw [List.find?_eq_none] at hf
  have := hf e he
  simp [hs] at this
 | some e1 => exact ⟨e1,rfl,List.mem_of_find?_eq_some hf,by simpa using List.find?_some hf⟩
theorem op_entry (R : Rel P K w0 μ h w) {xo : Operand} {oi mo ins : Nat} {seen : List Int} {k : Int} {kd : IntKind} {es : List (Int × V)} {v : V} (hx : VR μ (.iter oi) (ρ' xo)) (hgi : h.get oi = some (.miter (some mo) ins seen (some k))) (hgm : h.get mo = some (.map kd es ins))
  (hk : hasKey k es = some v) {o : Oper} (ho : o.op = .entry xo) : Res P K w0 μ ((execOp ρ' o).run P w) (.tup [.int kd k,v]) h := by
 obtain ⟨l,es',clock,hl,hb,hmr⟩ := R.mapAt hgm
 generalize hx' : ρ' xo = x' at hx
 cases hx with
 | @iter _ li hli =>
  obtain ⟨seen',s1,s2,s3⟩ := (R.iters oi mo ins seen (some k) kd es ins hgi hgm).2 rfl l li es' clock hl hli hb
  obtain ⟨st,t1,t2⟩ := s3 k rfl
  obtain ⟨e0,e1,e2⟩ := hmr.back k v hk
  obtain ⟨ef,f1,f2,f3⟩ := find_born e1 ((t2 e0 e1).2 e2)
  obtain ⟨n,y,g1,g2,g3⟩ := hmr.there ef f2
  rw [(t2 ef f2).1 f3] at g1
  cases g1
  rw [hk] at g2
  cases g2
  refine Res.same (x := .tuple #[.int kd k,ef.val]) ?_ R (VR.tup (.cons (.int ..) (.cons g3 .nil)))
  have h1 := run_getObj (P := P) s1 (fun _ _ _ q => by cases q)
  have h2 := run_getObj (P := P) hb (fun _ _ _ q => by cases q)
  have f1' : Array.find? (fun x => x.born == st) es' = some ef := by rw [<- f1]; simp
  unfold execOp
  rw [ho]
  simp only [hx',Instr.entry,Sem.run_bind,h1,Result.andThen_ok,t1,h2,bne_self_eq_false,Bool.false_eq_true,if_false,f1',(t2 ef f2).1 f3]
  rfl
omit [RoLim] in
theorem mem_leftOf {seen : List Int} {p : Int × V} : ∀ {es : List (Int × V)},(p ∈ leftOf seen es ↔ p ∈ es /\ p.1 ∉ seen)
 | [] => by simp [leftOf]
 | (k,v) :: r => by
  simp only [leftOf]
  by_cases hs : k ∈ seen
  ·have : (seen.any fun a => decide (a = k)) = true := by rw [List.any_eq_true]; exact ⟨k,hs,by simp⟩
   simp only [this,List.mem_cons,mem_leftOf]
   constructor
   ·rintro ⟨h1,h2⟩; exact ⟨.inr h1,h2⟩
   ·rintro ⟨rfl | h1,h2⟩
    ·exact absurd hs h2
    ·exact ⟨h1,h2⟩
  ·have : (seen.any fun a => decide (a = k)) = false := by
    rw [Bool.eq_false_iff]
    intro q
    rw [List.any_eq_true] at q
    obtain ⟨a,h1,h2⟩ := q
    simp at h2
    subst h2
    exact hs h1
   simp only [this,List.mem_cons,mem_leftOf]
   constructor
   ·rintro (rfl | ⟨h1,h2⟩)
    ·exact ⟨.inl rfl,hs⟩
    ·exact ⟨.inr h1,h2⟩
   ·rintro ⟨rfl | h1,h2⟩
    ·exact .inl rfl
    ·exact .inr ⟨h1,h2⟩
theorem op_next_nil (R : Rel P K w0 μ h w) {xo : Operand} {oi ins : Nat} {seen : List Int} {cur : Option Int} (hx : VR μ (.iter oi) (ρ' xo)) (hg : h.get oi = some (.miter none ins seen cur)) {o : Oper} (ho : o.op = .next xo false) : Res P K w0 μ ((execOp ρ' o).run P w) (.tup [.bool false]) h := by
 obtain ⟨l,hl,s,se,st,hb⟩ := (R.obj oi _ hg).2
 generalize hx' : ρ' xo = x' at hx
 cases hx with
 | @iter _ li hli =>
  rw [hl] at hli
  cases hli
  have h1 := run_getObj (P := P) hb (fun _ _ _ q => by cases q)
  refine Res.same (x := .tuple #[.bool false]) ?_ R (VR.tup (.cons (.bool _) .nil))
  unfold execOp
  rw [ho]
  simp only [hx',Instr.next,Sem.run_bind,h1,Result.andThen_ok]
  rfl
theorem op_next (R : Rel P K w0 μ h w) {xo : Operand} {oi mo ins : Nat} {seen : List Int} {cur : Option Int} {kd : IntKind} {es : List (Int × V)} (hx : VR μ (.iter oi) (ρ' xo)) (hgi : h.get oi = some (.miter (some mo) ins seen cur)) (hgm : h.get mo = some (.map kd es ins))
  {o : Oper} (ho : o.op = .next xo false) :
  (leftOf seen es = [] /\ Res P K w0 μ ((execOp ρ' o).run P w) (.tup [.bool false]) h) \/
   ∃ k v,(k,v) ∈ leftOf seen es /\ Res P K w0 μ ((execOp ρ' o).run P w) (.tup [.bool true,.int kd k,v]) (h.put oi (.miter (some mo) ins (k :: seen) (some k))) := by
 obtain ⟨l,es',clock,hl,hb,hmr⟩ := R.mapAt hgm
 generalize hx' : ρ' xo = x' at hx
 cases hx with
 | @iter _ li hli =>
  obtain ⟨seen',s1,s2,s3⟩ := (R.iters oi mo ins seen cur kd es ins hgi hgm).2 rfl l li es' clock hl hli hb
  have h1 := run_getObj (P := P) s1 (fun _ _ _ q => by cases q)
  have h2 := run_getObj (P := P) hb (fun _ _ _ q => by cases q)
  have hguard : (!seen'.isEmpty && !es'.isEmpty && es'.all (fun e => decide (e.born ≥ clock))) = false := by
   cases he : es'.isEmpty with
   | true => simp
   | false =>
    have hne : es'.toList ≠ [] := by
     intro q
     have : es' = #[] := by simpa using q
     rw [this] at he
     simp at he
    obtain ⟨e0,he0⟩ := List.exists_mem_of_ne_nil _ hne
    have hy := hmr.young e0 he0
    have : es'.all (fun e => decide (e.born ≥ clock)) = false := by
     rw [Bool.eq_false_iff]
     intro q
     rw [Array.all_eq_true_iff_forall_mem] at q
     have := q e0 (by simpa using he0)
     simp at this
     omega
    rw [this]
    simp
  -- what is left
  generalize hleft : es'.filter (fun e => !seen'.contains e.born) = left at *
  have hold : left.filter (fun e => decide (e.born < clock)) = left := by
   rw [Array.filter_eq_self]
   intro e he
   rw [<- hleft,Array.mem_filter] at he
   have := hmr.young e (by simpa using he.1)
   simpa using this
  have hnew : left.filter (fun e => decide (e.born ≥ clock)) = #[] := by
   rw [Array.filter_eq_empty_iff]
   intro e he
   rw [<- hleft,Array.mem_filter] at he
   have := hmr.young e (by simpa using he.1)
   simp
   omega
  have hmem : ∀ e ∈ left.toList, ∃ n v,e.key = .int kd n /\ (n,v) ∈ leftOf seen es /\ VR μ v e.val /\ e ∈ es'.toList := by
   intro e he
   have he' : e ∈ left := by simpa using he
   rw [<- hleft,Array.mem_filter] at he'
   have he2 : e ∈ es'.toList := by simpa using he'.1
   obtain ⟨n,v,g1,g2,g3⟩ := hmr.there e he2
   refine ⟨n,v,g1,mem_leftOf.2 ⟨hasKey_mem g2,fun q => ?_⟩,g3,he2⟩
   have := (s2 e he2 n g1).2 q
   have h3 := he'.2
   rw [this] at h3
   cases h3
  have hempty : left.isEmpty = true -> leftOf seen es = [] := by
   intro q
   have ql : left = #[] := by simpa using q
   rw [List.eq_nil_iff_forall_not_mem]
   rintro ⟨n,v⟩ hnv
   obtain ⟨g1,g2⟩ := mem_leftOf.1 hnv
   obtain ⟨e,g3,g4⟩ := hmr.back n v (hasKey_of_mem hmr.sorted g1)
   have : e ∈ left := by
    rw [<- hleft,Array.mem_filter]
    refine ⟨by simpa using g3,?_⟩
    cases hc : seen'.contains e.born with
    | false => rfl
    | true => exact absurd ((s2 e g3 n g4).1 hc) g2
   rw [ql] at this
   simp at this
  -- the run
  have hrun : ∀ (i : Nat) (w1 : World) (c : Option MapEntry),(choose (.mapNext ((if left.isEmpty then #[none] else #[]) ++ (left ++ (#[] : Array MapEntry)).map some).size)).run P w = .ok i w1 ->
    ((if left.isEmpty then #[none] else #[]) ++ (left ++ (#[] : Array MapEntry)).map some)[i]? = some c ->
    (Instr.next (.pointer (some ⟨li.blk,0,none⟩)) false o.type).run P w = (match c with
     | some e => ((setObj li.blk (.mapIter (some l.blk) clock (seen'.push e.born) clock)).run P w1).andThen fun _ w2 => .ok (.tuple #[.bool true,e.key,e.val]) w2
     | none => .ok (.tuple #[.bool false]) w1) := by
   intro i w1 c q1 q2
   unfold Instr.next
   simp only [Sem.run_bind,h1,Result.andThen_ok,h2,hguard,Bool.false_eq_true,if_false,hleft,hold,hnew,q1,q2]
   cases c with
   | none => rfl
   | some e =>
    show Sem.run P (setObj li.blk (Obj.mapIter (some l.blk) clock (seen'.push e.born) clock) >>= fun _ => pure (Value.tuple #[Value.bool true,e.key,e.val])) w1 = _
    rw [Sem.run_bind]
    rfl
  by_cases hl0 : left.isEmpty = true
  ·refine .inl ⟨hempty hl0,?_⟩
   have ql : left = #[] := by simpa using hl0
   have q := hrun 0 w none (by rw [ql,run_choose]; simp [Question.forced]) (by rw [ql]; simp)
   exact Res.same (x := .tuple #[.bool false]) (by unfold execOp; rw [ho]; simp only [hx',Sem.run_bind,q]; rfl) R (VR.tup (.cons (.bool _) .nil))
  ·have hf : left.isEmpty = false := by simpa using hl0
   have hcand : ((if left.isEmpty then #[none] else #[]) ++ (left ++ (#[] : Array MapEntry)).map some) = left.map some := by rw [hf]; simp
   have hpos : 0 < left.size := by
    rcases Nat.eq_zero_or_pos left.size with q | q
    ·have : left = #[] := Array.eq_empty_of_size_eq_zero q
     rw [this] at hf
     simp at hf
    ·exact q
   -- the choice
   have hchoice : ∃ i w1,(choose (.mapNext (left.map some).size)).run P w = .ok i w1 /\ i < left.size /\ w1.heap = w.heap /\ w1.os = w.os /\ w1.tape = w.tape /\ w1.output = w.output := by
    rw [run_choose]
    by_cases hfo : (Question.mapNext (left.map some).size).forced = true
    ·exact ⟨0,w,by rw [if_pos hfo],hpos,rfl,rfl,rfl,rfl⟩
    ·refine ⟨(Question.mapNext (left.map some).size).cut (w.tape w.drawn (.mapNext (left.map some).size)), { w with drawn := w.drawn + 1 },by rw [if_neg hfo],?_,rfl,rfl,rfl,rfl⟩
     simp only [Question.cut,Array.size_map]
     exact Nat.mod_lt _ hpos
   obtain ⟨i,w1,c1,c2,c3,c4,c5,c6⟩ := hchoice
   have hel : (left.map some)[i]? = some (some left[i]) := by simp [c2]
   have q := hrun i w1 (some left[i]) (by rw [hcand]; exact c1) (by rw [hcand]; exact hel)
   obtain ⟨n,v,g1,g2,g3,g4⟩ := hmem left[i] (by simp)
   refine .inr ⟨n,v,g2,?_⟩
   have R1 := R.drawn c3 c4 c5 c6
   have s1' : w1.heap[li.blk]? = some (.mapIter (some l.blk) clock seen' clock) := by rw [c3]; exact s1
   have hset := run_setObj (P := P) (o' := .mapIter (some l.blk) clock (seen'.push left[i].born) clock) s1' (fun _ _ _ q => by cases q)
   simp only [hset,Result.andThen_ok] at q
   have hltb := (R1.dom _ _ _ hli).2
   have hne : l.blk ≠ li.blk := by
    intro q2
    rw [q2,s1] at hb
    cases hb
   have hb1 : w1.heap[l.blk]? = some (.map es' clock) := by rw [c3]; exact hb
   refine ⟨μ,.tuple #[.bool true,left[i].key,left[i].val], { w1 with heap := w1.heap.setIfInBounds li.blk (.mapIter (some l.blk) clock (seen'.push left[i].born) clock) },_,?_,.inl rfl,Mu.le_refl μ,
    R1.turn hgi rfl (by simp [roX]) (fun g q => q) (fun g q => q) hli ⟨li,hli,l,hl,clock,_,clock,set_at hltb⟩ (fun oi2 mo2 ins2 seen2 cur2 kd2 es2 ins3 p1 p2 p3 => ?_),?_⟩
   ·unfold execOp
    rw [ho]
    simp only [hx',Sem.run_bind,q,Result.andThen_ok]
    rfl
   ·rw [Heap.get_put] at p1 p2
    have hmo : mo2 ≠ oi := by
     intro e
     rw [if_pos e] at p2
     cases p2
    have hoi : oi2 = oi := p3.resolve_right hmo
    rw [if_pos hoi] at p1
    rw [if_neg hmo] at p2
    cases p1
    subst hoi
    rw [hgm] at p2
    cases p2
    refine ⟨Nat.le_refl _,fun _ => ?_⟩
    intro lm lj es'' clock'' hlm hlj hw
    rw [hl] at hlm
    cases hlm
    rw [hli] at hlj
    cases hlj
    rw [set_other hne,hb1] at hw
    cases hw
    have hinj : ∀ e ∈ es'.toList,(e.born = left[i].born ↔ e.key = left[i].key) := by
     intro e he
     obtain ⟨a,ha⟩ := List.getElem?_of_mem he
     obtain ⟨b,hb'⟩ := List.getElem?_of_mem g4
     by_cases hab : a = b
     ·subst hab
      rw [ha] at hb'
      cases hb'
      simp
     ·have k1 := pairwise_at (fun a b h => fun q => h q.symm) hmr.keys ha hb' hab
      have k2 := pairwise_at (fun a b h => fun q => h q.symm) hmr.stamps ha hb' hab
      exact ⟨fun q => absurd q k2,fun q => absurd q k1⟩
    refine ⟨_,set_at hltb,fun e he n' hn' => ?_,fun k' hk' => ?_⟩
    ·rw [Array.contains_push]
     have h3 := s2 e he n' hn'
     have h4 := hinj e he
     rw [hn',g1] at h4
     simp only [Bool.or_eq_true,beq_iff_eq,List.mem_cons]
     rw [h3,h4]
     constructor
     ·rintro (q | q)
      ·exact .inr q
      ·injection q with _ q; exact .inl q
     ·rintro (rfl | q)
      ·exact .inr rfl
      ·exact .inl q
    ·cases hk'
     refine ⟨left[i].born,by simp,fun e he => ?_⟩
     rw [hinj e he,g1]
   ·exact VR.tup (.cons (.bool _) (.cons (by rw [g1]; exact .int ..) (.cons g3 .nil)))
end
end Go.Xr
namespace Go.Xr
open Go.RowKit
section
variable [RoLim] {P : Program} {K : Nat -> Prop} {w0 : World} {μ μ' : Mu} {h h' : Heap} {w w' : World} {ρ : Rd} {ρ' : Operand -> Value}
def OVR : Option Nat -> Option Value -> Prop
 | none,none => True
 | some n,some v => ∃ k,v = .int k (n : Int)
 | _,_ => False
omit [RoLim] in
theorem run_bound {k : IntKind} {n y : Nat} {code : BoundsCode} (hle : n <= y) : (Instr.sliceBound (.int k (n : Int)) y code).run P w = .ok n w := by
 have : (0 : Int) <= (n : Int) /\ (n : Int) <= (y : Int) := by omega
 simp [Instr.sliceBound,asIntOf,hle]
omit [RoLim] in
theorem run_bounds {len cap : Nat} {lo hi mx : Option Nat} {lo' hi' mx' : Option Value} (h1 : OVR lo lo') (h2 : OVR hi hi') (h3 : OVR mx mx') (hm : mx.getD cap <= cap) (he : hi.isSome -> hi.getD len <= mx.getD cap) (hb : lo.getD 0 <= hi.getD len) (hq : mx.isSome -> hi.isSome) :
  (Instr.sliceBounds true len cap lo' hi' mx').run P w = .ok (lo.getD 0,hi.getD len,mx.getD cap) w := by
 unfold Instr.sliceBounds
 cases mx with
 | none =>
  cases mx' <;> simp only [OVR] at h3
  cases hi with
  | none =>
   cases hi' <;> simp only [OVR] at h2
   cases lo with
   | none => cases lo' <;> simp only [OVR] at h1; simp
   | some b =>
    cases lo' <;> simp only [OVR] at h1
    obtain ⟨k,rfl⟩ := h1
    simp at hb
    simp [run_bound hb]
  | some e =>
   cases hi' <;> simp only [OVR] at h2
   obtain ⟨k2,rfl⟩ := h2
   have he := he rfl
   simp at he
   cases lo with
   | none => cases lo' <;> simp only [OVR] at h1; simp [run_bound he]
   | some b =>
    cases lo' <;> simp only [OVR] at h1
    obtain ⟨k,rfl⟩ := h1
    simp at hb
    simp [run_bound he,run_bound hb]
 | some m =>
  cases mx' <;> simp only [OVR] at h3
  obtain ⟨k3,rfl⟩ := h3
  cases hi with
  | none => simp at hq
  | some e =>
   cases hi' <;> simp only [OVR] at h2
   obtain ⟨k2,rfl⟩ := h2
   have he := he rfl
   simp at he hm
   cases lo with
   | none => cases lo' <;> simp only [OVR] at h1; simp [run_bound he,run_bound hm]
   | some b =>
    cases lo' <;> simp only [OVR] at h1
    obtain ⟨k,rfl⟩ := h1
    simp at hb
    simp [run_bound he,run_bound hb,run_bound hm]
omit [RoLim] in
theorem run_slice {t e : TypeId} {n : Nat} (ht : P.underlying t = some (.slice e)) (hn : sizOf P e = some n) {a : Option Addr} {len cap : Nat} {lo' hi' mx' : Option Value} {b e' m : Nat} (hb : (Instr.sliceBounds true len cap lo' hi' mx').run P w = .ok (b,e',m) w) :
  (Instr.sliceAt t (.slice a len cap) lo' hi' mx').run P w = .ok (.slice (if m = b then a else a.map (·.add (b * n))) (e' - b) (m - b)) w := by
 unfold Instr.sliceAt
 simp only [Sem.run_bind,run_und ht,Result.andThen_ok]
 unfold Instr.slice
 simp only [Sem.run_bind,run_und ht,Result.andThen_ok,hb,run_sizeOf hn,Sem.run_pure]
omit [RoLim] in
theorem cellsOf_get {o : Nat} {c : Cells} (hcells : h.cells? o = some c) : h.get o = some (.cells c) := by
 unfold Heap.cells? at hcells
 split at hcells <;> try (cases hcells; done)
 injection hcells with hcells
 subst hcells
 assumption
theorem op_slc (R : Rel P K w0 μ h w) {t e : TypeId} {n : Nat} (ht : P.underlying t = some (.slice e)) (hn : sizOf P e = some (n + 1)) {x : V} {xo : Operand} {lo hi mx : Option Nat} {lo' hi' mx' : Option Operand} (hx : VR μ x (ρ' xo))
  (h1 : OVR lo (lo'.map ρ')) (h2 : OVR hi (hi'.map ρ')) (h3 : OVR mx (mx'.map ρ')) (hq : mx.isSome -> hi.isSome) {v : V} (hv : sliceV h (n + 1) x lo hi mx = some v) {o : Oper} (ho : o.op = .slice t xo lo' hi' mx') : Res P K w0 μ ((execOp ρ' o).run P w) v h := by
 generalize hx' : ρ' xo = x' at hx
 have fin : ∀ y,(Instr.sliceAt t x' (lo'.map ρ') (hi'.map ρ') (mx'.map ρ')).run P w = .ok y w -> VR μ v y -> Res P K w0 μ ((execOp ρ' o).run P w) v h := by
  intro y q1 q2
  exact Res.same (x := y) (by unfold execOp; rw [ho]; simp only [hx',Sem.run_bind,q1]; rfl) R q2
 unfold sliceV at hv
 split at hv
 ·-- nil
  cases hx
  split at hv <;> try (cases hv; done)
  rename_i q1 q2 q3
  injection hv with hv
  subst hv
  have hb := run_bounds (P := P) (w := w) (len := 0) (cap := 0) h1 h2 h3 (by omega) (fun _ => by omega) (by omega) hq
  exact fin _ (run_slice ht hn hb) (by rw [q1,q2,q3]; exact .nils)
 ·rename_i og gg off len c
  split at hv <;> try (cases hv; done)
  rename_i q1
  injection hv with hv
  simp only [Bool.and_eq_true] at q1
  obtain ⟨⟨p1,p2⟩,p3⟩ := q1
  have p1 := Nat.le_of_ble_eq_true p1
  have p2 := Nat.le_of_ble_eq_true p2
  have p3 := Nat.le_of_ble_eq_true p3
  cases hx with
  | @exact _ _ _ _ _ l hm a ha hlc =>
   have hb := run_bounds (P := P) (w := w) (len := len) (cap := c) h1 h2 h3 p1 (fun _ => p2) p3 hq
   refine fin _ (run_slice ht hn hb) ?_
   rw [<- hv]
   by_cases hmb : mx.getD c = lo.getD 0
   ·rw [if_pos hmb]
    have hbq : Nat.beq (mx.getD c) (lo.getD 0) = true := by rw [Nat.beq_eq]; exact hmb
    rw [hbq]
    refine .exact hm a ?_ (by omega)
    rcases ha with q | ⟨q1,q2⟩
    ·exact .inl q
    ·right; constructor <;> omega
   ·rw [if_neg hmb]
    have hbq : Nat.beq (mx.getD c) (lo.getD 0) = false := by
     cases hc : Nat.beq (mx.getD c) (lo.getD 0) with
     | false => rfl
     | true => exact absurd (Nat.eq_of_beq_eq_true hc) hmb
    rw [hbq]
    have hnorm : a = ⟨l.blk,l.base + off,none⟩ := by
     rcases ha with q | ⟨q1,q2⟩
     ·exact q
     ·omega
    subst hnorm
    simp only [Option.map_some,addr_add]
    rw [Nat.add_assoc]
    exact .exact hm _ (.inl rfl) (by omega)
 ·rename_i og gg off len k ek
  cases hx with
  | @rest _ _ _ _ _ _ l hm a ha hlen hoff hek =>
   rw [hek] at hoff
   split at hv
   ·-- no third bound
    rename_i q0
    simp only [Bool.and_eq_true] at q0
    obtain ⟨p0,p2⟩ := q0
    have p0 := Nat.eq_of_beq_eq_true p0
    have p2 := Nat.le_of_ble_eq_true p2
    subst p0
    split at hv <;> try (cases hv; done)
    rename_i p1
    injection hv with hv
    have hfit : hi.getD len + k <= l.kap := by
     rw [Bool.or_eq_true] at p1
     rcases p1 with p1 | p1
     ·have := Nat.le_of_ble_eq_true p1; omega
     ·split at p1 <;> try (cases p1; done)
      rename_i c hcells
      have hg := cellsOf_get hcells
      rw [Bool.and_eq_true] at p1
      obtain ⟨p3,p4⟩ := p1
      split at p4 <;> try (cases p4; done)
      rename_i L hL
      rw [Bool.and_eq_true] at p4
      have p5 := Nat.eq_of_beq_eq_true p4.1
      have p6 := Nat.le_of_ble_eq_true p4.2
      obtain ⟨l1,arr,et,fz,e1,e2,e3,e4,e5,e6,e7⟩ := R.cellsAt hg hL
      rw [hm] at e1
      cases e1
      obtain ⟨e8,e9,e10⟩ := e7.1 p5 p3
      rw [hek] at e8
      have : (k + hi.getD len) * (n + 1) <= l.kap * (n + 1) := by rw [Nat.add_mul]; omega
      have := Nat.le_of_mul_le_mul_right this (Nat.succ_pos _)
      omega
    have hb := run_bounds (P := P) (w := w) (len := len) (cap := l.kap - k) (mx := none) h1 h2 h3 (Nat.le_refl _) (fun _ => by simp; omega) p2 (by simp)
    refine fin _ (run_slice ht hn hb) ?_
    rw [<- hv]
    have hle : hi.getD len - lo.getD 0 + (k + lo.getD 0) <= l.kap := by omega
    have hoff2 : off + lo.getD 0 * (n + 1) = (k + lo.getD 0) * (n + 1) := by rw [Nat.add_mul]; omega
    have hcap : (none : Option Nat).getD (l.kap - k) - lo.getD 0 = l.kap - (k + lo.getD 0) := by simp; omega
    rw [hcap]
    by_cases hmb : (none : Option Nat).getD (l.kap - k) = lo.getD 0
    ·rw [if_pos hmb]
     simp only [Option.getD_none] at hmb
     exact VR.rest hm a (.inr ⟨by omega,by omega⟩) hle (by rw [hek]; exact hoff2) hek
    ·rw [if_neg hmb]
     simp only [Option.map_some]
     refine VR.rest hm _ ?_ hle (by rw [hek]; exact hoff2) hek
     rcases ha with rfl | ⟨z1,z2⟩
     ·left; rw [addr_add,Nat.add_assoc]
     ·right; constructor <;> omega
   ·rename_i m q0
    simp only [Bool.and_eq_true] at q0
    obtain ⟨p0,p2⟩ := q0
    have p0 := Nat.eq_of_beq_eq_true p0
    have p2 := Nat.le_of_ble_eq_true p2
    subst p0
    split at hv <;> try (cases hv; done)
    rename_i p1
    injection hv with hv
    rw [Bool.and_eq_true] at p1
    have p3 := Nat.le_of_ble_eq_true p1.1
    have p4 := Nat.le_of_ble_eq_true p1.2
    have hb := run_bounds (P := P) (w := w) (len := len) (cap := l.kap - k) (mx := some m) h1 h2 h3 (by simp; omega) (fun _ => by simpa using p3) p2 hq
    refine fin _ (run_slice ht hn hb) ?_
    rw [<- hv]
    simp only [Option.getD_some]
    by_cases hmb : m = lo.getD 0
    ·rw [if_pos hmb]
     have hbq : Nat.beq m (lo.getD 0) = true := by rw [Nat.beq_eq]; exact hmb
     rw [hbq]
     refine .exact hm a ?_ (by omega)
     rcases ha with q | ⟨q1,q2⟩
     ·exact .inl q
     ·right; constructor <;> omega
    ·rw [if_neg hmb]
     have hbq : Nat.beq m (lo.getD 0) = false := by
      cases hc : Nat.beq m (lo.getD 0) with
      | false => rfl
      | true => exact absurd (Nat.eq_of_beq_eq_true hc) hmb
     rw [hbq]
     have hnorm : a = ⟨l.blk,l.base + off,none⟩ := by
      rcases ha with q | ⟨q1,q2⟩
      ·exact q
      ·omega
     subst hnorm
     simp only [Option.map_some,addr_add]
     rw [Nat.add_assoc]
     exact .exact hm _ (.inl rfl) (by omega)
   ·cases hv
 ·cases hv
end
end Go.Xr
namespace Go.Xr
open Go.RowKit
section
variable [RoLim] {P : Program} {K : Nat -> Prop} {w0 : World} {μ μ' : Mu} {h h' : Heap} {w w' : World} {ρ : Rd} {ρ' : Operand -> Value}
omit [RoLim] in
theorem exec_builtin {o : Oper} {c : Call} {b : Builtin} (ho : o.op = .call c) (hb : c.callee = .builtin b) : ∃ cs,execOp ρ' o = builtin b c.argTypes o.type cs (c.args.map ρ') := by
 refine ⟨c.args.map fun | .const _ => true | _ => false,?_⟩
 unfold execOp
 rw [ho]
 simp only [resolve,hb,pure_bind,invoke]
 rfl
theorem Res'.call {r : Result Value} {v : V} (hr : Res' P K w0 μ r v h') {o : Oper} {f : Sem Value} (he : execOp ρ' o = do pure (.value (<- f))) (hf : f.run P w = r) : Res P K w0 μ ((execOp ρ' o).run P w) v h' :=
 hr.res fun x w' e => by rw [he,Sem.run_bind,hf,e]; rfl
theorem Res'.same {v : V} {x : Value} {r : Result Value} (hr : r = .ok x w) (R : Rel P K w0 μ h w) (hv : VR μ v x) : Res' P K w0 μ r v h := ⟨μ,x,w,hr,Mu.le_refl μ,R,hv⟩
omit [RoLim] in
theorem args_two {c : Call} {xo yo : Operand} (ha : c.args.toList = [xo,yo]) : c.args.map ρ' = #[ρ' xo,ρ' yo] := by
 apply Array.ext'
 simp [ha]
omit [RoLim] in
theorem args_one {c : Call} {xo : Operand} (ha : c.args.toList = [xo]) : c.args.map ρ' = #[ρ' xo] := by
 apply Array.ext'
 simp [ha]
theorem op_len_slice (R : Rel P K w0 μ h w) {c : Call} {xo : Operand} {t e : TypeId} {x : V} (hb : c.callee = .builtin .len) (ha : c.args.toList = [xo]) (ht : c.argTypes[0]? = some t) (hd : P.underlying t = some (.slice e)) (hx : VR μ x (ρ' xo)) {n : Nat}
  (hn : (x = .nils /\ n = 0) \/ ∃ o g off cap,x = .slice o g off n cap) {o : Oper} (ho : o.op = .call c) : Res P K w0 μ ((execOp ρ' o).run P w) (.int .i64 (n : Int)) h := by
 obtain ⟨cs,he⟩ := exec_builtin (ρ' := ρ') ho hb
 rw [args_one ha] at he
 refine (Res'.same (x := goInt n) (r := (Builtin.len_ c.argTypes o.type #[ρ' xo]).run P w) ?_ R (.int ..)).call he rfl
 generalize ρ' xo = x' at hx
 unfold Builtin.len_
 rcases hn with ⟨rfl,rfl⟩ | ⟨og,g,off,cap,rfl⟩ <;> cases hx <;> simp [ht,run_und hd]
theorem op_len_str (R : Rel P K w0 μ h w) {c : Call} {xo : Operand} {t : TypeId} {s : ByteArray} (hb : c.callee = .builtin .len) (ha : c.args.toList = [xo]) (ht : c.argTypes[0]? = some t) (hd : P.underlying t = some .string) (hx : VR μ (.str s) (ρ' xo)) {o : Oper} (ho : o.op = .call c) :
  Res P K w0 μ ((execOp ρ' o).run P w) (.int .i64 (s.size : Int)) h := by
 obtain ⟨cs,he⟩ := exec_builtin (ρ' := ρ') ho hb
 rw [args_one ha] at he
 refine (Res'.same (x := goInt s.size) (r := (Builtin.len_ c.argTypes o.type #[ρ' xo]).run P w) ?_ R (.int ..)).call he rfl
 generalize ρ' xo = x' at hx
 cases hx
 simp [Builtin.len_,ht,run_und hd]
theorem op_len_map (R : Rel P K w0 μ h w) {c : Call} {xo : Operand} {t k e : TypeId} {x : V} (hb : c.callee = .builtin .len) (ha : c.args.toList = [xo]) (ht : c.argTypes[0]? = some t) (hd : P.underlying t = some (.map k e)) (hx : VR μ x (ρ' xo)) {n : Nat}
  (hn : (x = .nilm /\ n = 0) \/ ∃ o kd es ins,x = .map o /\ h.get o = some (.map kd es ins) /\ n = es.length) {o : Oper} (ho : o.op = .call c) : Res P K w0 μ ((execOp ρ' o).run P w) (.int .i64 (n : Int)) h := by
 obtain ⟨cs,he⟩ := exec_builtin (ρ' := ρ') ho hb
 rw [args_one ha] at he
 refine (Res'.same (x := goInt n) (r := (Builtin.len_ c.argTypes o.type #[ρ' xo]).run P w) ?_ R (.int ..)).call he rfl
 generalize ρ' xo = x' at hx
 rcases hn with ⟨rfl,rfl⟩ | ⟨om,kd,es,ins,rfl,hg,rfl⟩
 ·cases hx
  simp [Builtin.len_,ht,run_und hd]
 ·obtain ⟨l,es',clock,hl,hbk,hmr⟩ := R.mapAt hg
  cases hx with
  | @map _ l2 hl2 =>
   rw [hl] at hl2
   cases hl2
   have hobj := run_getObj (P := P) hbk (fun _ _ _ q => by cases q)
   have := hmr.size
   simp at this
   simp [Builtin.len_,ht,run_und hd,hobj,this]
theorem op_cap (R : Rel P K w0 μ h w) {c : Call} {xo : Operand} {t e : TypeId} {x : V} (hb : c.callee = .builtin .cap) (ha : c.args.toList = [xo]) (ht : c.argTypes[0]? = some t) (hd : P.underlying t = some (.slice e))
  (hx : VR μ x (ρ' xo)) {n : Nat} (hn : (x = .nils /\ n = 0) \/ ∃ o g off len,x = .slice o g off len (.exact n)) {o : Oper} (ho : o.op = .call c) : Res P K w0 μ ((execOp ρ' o).run P w) (.int .i64 (n : Int)) h := by
 obtain ⟨cs,he⟩ := exec_builtin (ρ' := ρ') ho hb
 rw [args_one ha] at he
 refine (Res'.same (x := goInt n) (r := (Builtin.cap_ c.argTypes o.type #[ρ' xo]).run P w) ?_ R (.int ..)).call he rfl
 generalize ρ' xo = x' at hx
 unfold Builtin.cap_
 rcases hn with ⟨rfl,rfl⟩ | ⟨og,g,off,len,rfl⟩ <;> cases hx <;> simp [ht,run_und hd]
omit [RoLim] in
theorem slice_of_append {esz bytes n : Nat} {x : V} {xs : List V} {v : V} (hv : appendV h esz bytes x xs n = some (v,h')) {x' : Value} (hx : VR μ x x') : ∃ base sLen sCap,x' = .slice base sLen sCap := by
 unfold appendV at hv
 cases n with
 | zero =>
  simp only at hv
  split at hv
  ·cases hx; exact ⟨_,_,_,rfl⟩
  ·cases hx <;> exact ⟨_,_,_,rfl⟩
  ·cases hv
 | succ n =>
  simp only at hv
  split at hv
  ·cases hx; exact ⟨_,_,_,rfl⟩
  ·cases hx <;> exact ⟨_,_,_,rfl⟩
  ·cases hv
omit [RoLim] in
theorem argTypes_two {c : Call} {t u : TypeId} (ht0 : c.argTypes[0]? = some t) (hu0 : c.argTypes[1]? = some u) {ty : TypeId} {xs : Array Value} : Builtin.append_ c.argTypes ty xs = Builtin.append_ #[t,u] ty xs := by
 unfold Builtin.append_
 rw [ht0,hu0]
 rfl
theorem op_append (R : Rel P K w0 μ h w) {c : Call} {xo yo : Operand} {t u e : TypeId} {d : TypeDesc} {z : V} {esz bytes n : Nat} {x y : V} {xs : List V} (hb : c.callee = .builtin .append) (ha : c.args.toList = [xo,yo]) (ht0 : c.argTypes[0]? = some t) (hu0 : c.argTypes[1]? = some u)
  (ht : P.underlying t = some (.slice e)) (hu : P.underlying u = some d) (hd : (∃ e',d = .slice e') \/ d = .string) (hz : zeroOf P e = some z) (hn : sizOf P e = some esz) (hby : bytOf P e = some bytes) (hpos : 0 < bytes) (hzl : z.cellsOf.length = esz)
  (hx : VR μ x (ρ' xo)) (hy : VR μ y (ρ' yo)) (hly : lenV y = some n) (hxs : elemsOf h esz n y = some xs) (hxl : xs.length = n * esz) {v : V} (hv : appendV h esz bytes x xs n = some (v,h')) {o : Oper} (ho : o.op = .call c) : Res P K w0 μ ((execOp ρ' o).run P w) v h' := by
 obtain ⟨cs,he⟩ := exec_builtin (ρ' := ρ') ho hb
 rw [args_two ha] at he
 obtain ⟨i,zx,hi,hzx,hzv⟩ := zeroOf_some hz
 have hin : i.size = esz := by unfold sizOf at hn; simpa [hi] using hn
 have hib : i.bytes = bytes := by unfold bytOf at hby; simpa [hi] using hby
 obtain ⟨ns,q1,q2⟩ := elems_run (P := P) R hy hly (Nat.le_refl _) hxs
 have hzs : zx.cells.size = esz := by have := (hzv μ).cells.length; simp only [Array.length_toList] at this; omega
 obtain ⟨base,sLen,sCap,hsl⟩ := slice_of_append hv hx
 rw [hsl] at hx he
 have spec := app_slice (P := P) (w := w) (ty := o.type) (x := ρ' yo) (base := base) (sLen := sLen) (sCap := sCap) (m := n) (ns := ns) ht hu hd hi hzx (by omega) (lenV_run hy hly) (by rw [hin]; exact q2)
 rw [hin,hib] at spec
 exact (appendV_ok R hx q1 hxl hzs spec hv).call (f := Builtin.append_ c.argTypes o.type #[.slice base sLen sCap,ρ' yo]) he (by rw [argTypes_two ht0 hu0])
theorem op_appendZ (R : Rel P K w0 μ h w) {c : Call} {xo yo : Operand} {t u e : TypeId} {k : IntKind} {z : V} {esz bytes n : Nat} {x y : V} (hb : c.callee = .builtin .append) (ha : c.args.toList = [xo,yo]) (ht0 : c.argTypes[0]? = some t) (hu0 : c.argTypes[1]? = some u)
  (ht : P.underlying t = some (.slice e)) (hu : P.underlying u = some (.int k)) (hz : zeroOf P e = some z) (hn : sizOf P e = some esz) (hby : bytOf P e = some bytes) (hpos : 0 < bytes) (hzl : z.cellsOf.length = esz)
  (hx : VR μ x (ρ' xo)) (hy : VR μ y (ρ' yo)) (hly : asNat y = some n) (hlim : n * bytes <= 140737488355328) {v : V} (hv : appendV h esz bytes x (repl n z.cellsOf) n = some (v,h')) {o : Oper} (ho : o.op = .call c) : Res P K w0 μ ((execOp ρ' o).run P w) v h' := by
 obtain ⟨cs,he⟩ := exec_builtin (ρ' := ρ') ho hb
 rw [args_two ha] at he
 obtain ⟨i,zx,hi,hzx,hzv⟩ := zeroOf_some hz
 have hin : i.size = esz := by unfold sizOf at hn; simpa [hi] using hn
 have hib : i.bytes = bytes := by unfold bytOf at hby; simpa [hi] using hby
 have hzs : zx.cells.size = esz := by have := (hzv μ).cells.length; simp only [Array.length_toList] at this; omega
 obtain ⟨base,sLen,sCap,hsl⟩ := slice_of_append hv hx
 obtain ⟨k',hk'⟩ := asNat_VR hy hly
 rw [hsl] at hx he
 rw [hk'] at he
 have spec := app_zero (P := P) (w := w) (ty := o.type) (k' := k') (base := base) (sLen := sLen) (sCap := sCap) (m := n) ht hu hi hzx (by omega) (by omega) (by rw [hib]; exact hlim)
 rw [hin,hib] at spec
 have hrl : (repl n z.cellsOf).length = n * esz := by unfold repl; rw [List.length_flatten]; simp [hzl]
 exact (appendV_ok R hx ((hzv μ).cells.repl n) hrl hzs spec hv).call (f := Builtin.append_ c.argTypes o.type #[.slice base sLen sCap,.int k' (n : Int)]) he (by rw [argTypes_two ht0 hu0])
theorem op_delete (R : Rel P K w0 μ h w) {c : Call} {xo yo : Operand} {t e : TypeId} {kd k : IntKind} {n : Int} {x : V} (hb : c.callee = .builtin .delete) (ha : c.args.toList = [xo,yo]) (ht0 : c.argTypes[0]? = some t) (hm : mapOf P t = some (kd,e))
  (hx : VR μ x (ρ' xo)) (hy : VR μ (.int k n) (ρ' yo)) {h' : Heap} (hr : (x = .nilm /\ h' = h) \/ ∃ om es ins,x = .map om /\ h.get om = some (.map k es ins) /\ h' = h.put om (.map k (dropKey n es) ins)) {o : Oper} (ho : o.op = .call c) :
  Res P K w0 μ ((execOp ρ' o).run P w) .undef h' := by
 obtain ⟨cs,he⟩ := exec_builtin (ρ' := ρ') ho hb
 rw [args_two ha] at he
 have hy' : ρ' yo = .int k n := by generalize ρ' yo = y' at hy; cases hy; rfl
 rw [hy'] at he
 have hat : ∀ xs,Builtin.delete_ c.argTypes o.type xs = Builtin.delete_ #[t,t] o.type xs := by intro xs; unfold Builtin.delete_; rw [ht0]; rfl
 rcases hr with ⟨rfl,rfl⟩ | ⟨om,es,ins,rfl,hg,rfl⟩
 ·have hx' : ρ' xo = .map none := by generalize ρ' xo = x' at hx; cases hx; rfl
  rw [hx'] at he
  obtain ⟨kt,h1,h2⟩ := mapOf_some hm
  refine (Res'.same (x := .tuple #[]) (r := (Builtin.delete_ #[t,t] o.type #[.map none,.int k n]).run P w) ?_ R (VR.undef μ)).call he (by rw [hat])
  unfold Builtin.delete_
  simp only [List.getElem?_toArray,List.getElem?_cons_zero,List.getElem?_cons_succ,Sem.run_bind,run_und h1,Result.andThen_ok,run_checkKey h2]
  rfl
 ·exact (run_delete (u := t) (ty := o.type) (n := n) R hm hx hg).call he (by rw [hat])
theorem op_clearM (R : Rel P K w0 μ h w) {c : Call} {xo : Operand} {t k e : TypeId} {x : V} (hb : c.callee = .builtin .clear) (ha : c.args.toList = [xo]) (ht0 : c.argTypes[0]? = some t) (hd : P.underlying t = some (.map k e)) (hx : VR μ x (ρ' xo)) {h' : Heap}
  (hr : (x = .nilm /\ h' = h) \/ ∃ om kd es ins,x = .map om /\ h.get om = some (.map kd es ins) /\ h' = h.put om (.map kd [] ins)) {o : Oper} (ho : o.op = .call c) : Res P K w0 μ ((execOp ρ' o).run P w) .undef h' := by
 obtain ⟨cs,he⟩ := exec_builtin (ρ' := ρ') ho hb
 rw [args_one ha] at he
 rcases hr with ⟨rfl,rfl⟩ | ⟨om,kd,es,ins,rfl,hg,rfl⟩
 ·have hx' : ρ' xo = .map none := by generalize ρ' xo = x' at hx; cases hx; rfl
  rw [hx'] at he
  refine (Res'.same (x := .tuple #[]) (r := (Builtin.clear_ c.argTypes o.type #[.map none]).run P w) ?_ R (VR.undef μ)).call he rfl
  simp [Builtin.clear_,ht0,run_und hd]
 ·obtain ⟨l,es',clock,hl,hbk,hmr⟩ := R.mapAt hg
  have hx' : ρ' xo = .map (some l.blk) := by
   generalize ρ' xo = x' at hx
   cases hx with
   | @map _ l2 hl2 => rw [hl] at hl2; cases hl2; rfl
  rw [hx'] at he
  have hobj := run_getObj (P := P) hbk (fun _ _ _ q => by cases q)
  have hset := run_setObj (P := P) (o' := .map #[] clock) hbk (fun _ _ _ q => by cases q)
  have : Res' P K w0 μ ((Builtin.clear_ c.argTypes o.type #[.map (some l.blk)]).run P w) .undef (h.put om (.map kd [] ins)) := by
   refine ⟨μ,undef,_,?_,Mu.le_refl μ,R.turnMap (es1' := #[]) (clock1 := clock) hg hl hbk ⟨by simp,fun n v q => by simp [hasKey] at q,rfl,by simp,by simp,by simp,by simp,by simp⟩ (.inr ⟨rfl,rfl,by simp⟩),VR.undef μ⟩
   unfold Builtin.clear_
   simp only [ht0,List.getElem?_toArray,List.getElem?_cons_zero,Sem.run_bind,run_und hd,Result.andThen_ok,hobj,hset]
   rfl
  exact this.call he rfl
theorem op_minmax (R : Rel P K w0 μ h w) {c : Call} {xo yo : Operand} {b : Bool} {k k' : IntKind} {m n : Int} (hb : c.callee = .builtin (if b then .min else .max)) (ha : c.args.toList = [xo,yo]) (hx : VR μ (.int k m) (ρ' xo)) (hy : VR μ (.int k' n) (ρ' yo))
  {o : Oper} (ho : o.op = .call c) : Res P K w0 μ ((execOp ρ' o).run P w) (.int k (match b with | true => (if n < m then n else m) | false => (if n > m then n else m))) h := by
 obtain ⟨cs,he⟩ := exec_builtin (ρ' := ρ') ho hb
 rw [args_two ha] at he
 have hx' : ρ' xo = .int k m := by generalize ρ' xo = x' at hx; cases hx; rfl
 have hy' : ρ' yo = .int k' n := by generalize ρ' yo = y' at hy; cases hy; rfl
 rw [hx',hy'] at he
 cases b with
 | true =>
  refine (Res'.same (x := .int k (if n < m then n else m)) (r := (Builtin.min_ c.argTypes o.type #[.int k m,.int k' n]).run P w) ?_ R (.int ..)).call he rfl
  simp [Builtin.min_,Builtin.min2]
 | false =>
  refine (Res'.same (x := .int k (if n > m then n else m)) (r := (Builtin.max_ c.argTypes o.type #[.int k m,.int k' n]).run P w) ?_ R (.int ..)).call he rfl
  simp [Builtin.max_,Builtin.max2]
end
end Go.Xr
namespace Go.Xr
open Go.RowKit
section
variable [RoLim] {P : Program} {K : Nat -> Prop} {w0 : World} {μ μ' : Mu} {h h' : Heap} {w w' : World} {ρ : Rd} {ρ' : Operand -> Value}
theorem op_mkfunc (R : Rel P K w0 μ h w) {f : Nat} {fs cs : Array Operand} {a b : List V} (ha : VRs μ a (fs.toList.map ρ')) (hb : VRs μ b (cs.toList.map ρ')) {o : Oper} (ho : o.op = .makeFunc (.func f) fs cs) :
  Res P K w0 μ ((execOp ρ' o).run P w) (.func f a b) h := by
 refine Res.same (x := .func (.func f) (fs.map ρ') (cs.map ρ')) ?_ R ?_
 ·simp [execOp,ho,Instr.makeFunc]
 ·have := VR.func (f := f) ha hb
  have e1 : (fs.toList.map ρ').toArray = fs.map ρ' := by apply Array.ext'; simp
  have e2 : (cs.toList.map ρ').toArray = cs.map ρ' := by apply Array.ext'; simp
  rw [e1,e2] at this
  exact this
theorem op_tassert (R : Rel P K w0 μ h w) {t xt : TypeId} {d : TypeDesc} {z x : V} {ok : Bool} {xo : Operand} (hd : P.underlying t = some d) (hn : ∀ m,d ≠ .interface m) (hz : zeroOf P t = some z) (hx : VR μ x (ρ' xo)) {v : V}
  (hv : (∃ t' y,x = .iface t' y /\ ((t = t' /\ v = (match ok with | true => .tup [y,.bool true] | false => y)) \/ (t ≠ t' /\ ok = true /\ v = .tup [z,.bool false]))) \/ (x = .nili /\ ok = true /\ v = .tup [z,.bool false])) {o : Oper} (ho : o.op = .typeAssert xo xt t ok) :
  Res P K w0 μ ((execOp ρ' o).run P w) v h := by
 obtain ⟨i,zx,hi,hzx,hzv⟩ := zeroOf_some hz
 have hex : (execOp ρ' o).run P w = (do pure (Next.value (<- Instr.typeAssert (ρ' xo) xt t ok)) : Sem Next).run P w := by simp [execOp,ho]
 rw [hex]
 generalize ρ' xo = x' at hx
 have hfail : ∀ x',(x' = .nilIface \/ ∃ t' y',x' = .iface t' y' /\ t' ≠ t) -> (Instr.typeAssert x' xt t true).run P w = .ok (.tuple #[zx,.bool false]) w := by
  intro x' hx'
  unfold Instr.typeAssert
  simp only [Sem.run_bind,run_und hd,Result.andThen_ok]
  rcases hx' with rfl | ⟨t',y',rfl,hne⟩
  ·cases d <;> first | (exact absurd rfl (hn _)) | simp [run_zeroValue hi hzx]
  ·cases d <;> first | (exact absurd rfl (hn _)) | simp [hne,run_zeroValue hi hzx]
 have hhold : ∀ y',(Instr.typeAssert (.iface t y') xt t ok).run P w = .ok (if ok then .tuple #[y',.bool true] else y') w := by
  intro y'
  unfold Instr.typeAssert
  simp only [Sem.run_bind,run_und hd,Result.andThen_ok]
  cases d <;> first | (exact absurd rfl (hn _)) | (simp only [if_true]; rfl)
 rcases hv with ⟨t',y,rfl,⟨rfl,rfl⟩ | ⟨hne,rfl,rfl⟩⟩ | ⟨rfl,rfl,rfl⟩
 ·cases hx with
  | @iface _ _ y' hy =>
   cases ok with
   | true => exact Res.same (x := .tuple #[y',.bool true]) (by rw [Sem.run_bind,hhold]; rfl) R (.tup (.cons hy (.cons (.bool _) .nil)))
   | false => exact Res.same (x := y') (by rw [Sem.run_bind,hhold]; rfl) R hy
 ·cases hx with
  | @iface _ _ y' hy =>
   exact Res.same (x := .tuple #[zx,.bool false]) (by rw [Sem.run_bind,hfail _ (.inr ⟨_,_,rfl,fun e => hne e.symm⟩)]; rfl) R (.tup (.cons (hzv μ) (.cons (.bool _) .nil)))
 ·cases hx
  exact Res.same (x := .tuple #[zx,.bool false]) (by rw [Sem.run_bind,hfail _ (.inl rfl)]; rfl) R (.tup (.cons (hzv μ) (.cons (.bool _) .nil)))
theorem Rel.writeAt (R : Rel P K w0 μ h w) {o g off len : Nat} {cap : Cap} {x' : Value} {vs : List V} {xs : List Value} (hx : VR μ (.slice o g off len cap) x') (hw : writeCells h o g off vs = some h') (hv : VRs μ vs xs) (hlen : len = 0 -> vs = []) :
  ∃ a w',(∃ sc,x' = .slice (some a) len sc) /\ (storeCells a xs).run P w = .ok () w' /\ Rel P K w0 μ h' w' := by
 have main : ∀ (l : Loc) (a : Addr),μ o g = some l -> (a = ⟨l.blk,l.base + off,none⟩ \/ len = 0) -> ∃ w',(storeCells a xs).run P w = .ok () w' /\ Rel P K w0 μ h' w' := by
  intro l a hm ha
  obtain ⟨w',h1,h2⟩ := R.write hw hv hm
  rcases ha with rfl | h0
  ·exact ⟨w',h1,h2⟩
  ·have e1 := hlen h0
   subst e1
   have e2 : xs = [] := by have := hv.length; cases xs <;> simp at this ⊢
   subst e2
   have : w' = w := by
    have h1' : (storeCells ⟨l.blk,l.base + off,none⟩ []).run P w = .ok () w := rfl
    rw [h1'] at h1
    cases h1
    rfl
   subst this
   exact ⟨w',rfl,h2⟩
 cases hx with
 | @exact _ _ _ _ c l hm a ha hlc =>
  obtain ⟨w',h1,h2⟩ := main l a hm (ha.imp id fun q => q.1)
  exact ⟨a,w',⟨_,rfl⟩,h1,h2⟩
 | @rest _ _ _ _ _ _ l hm a ha hln ho he =>
  obtain ⟨w',h1,h2⟩ := main l a hm (ha.imp id fun q => q.1)
  exact ⟨a,w',⟨_,rfl⟩,h1,h2⟩
omit [RoLim] in
theorem elemsOf_zero {esz : Nat} {y : V} {xs : List V} (hx : elemsOf h esz 0 y = some xs) : xs = [] := by
 unfold elemsOf at hx
 split at hx
 ·injection hx with hx; exact hx.symm
 ·injection hx with hx; exact hx.symm
 ·injection hx with hx; rw [<- hx]; simp
 ·cases hx
theorem op_copy (R : Rel P K w0 μ h w) {c : Call} {xo yo : Operand} {t e : TypeId} {esz a b : Nat} {x y : V} {xs : List V} (hb : c.callee = .builtin .copy) (ha : c.args.toList = [xo,yo]) (ht0 : c.argTypes[0]? = some t) (ht : P.underlying t = some (.slice e)) (hn : sizOf P e = some esz)
  (hx : VR μ x (ρ' xo)) (hy : VR μ y (ρ' yo)) (hla : lenV x = some a) (hlb : lenV y = some b) (hxs : elemsOf h esz (Nat.min b a) y = some xs)
  (hr : (x = .nils /\ h' = h) \/ ∃ og g off len cap,x = .slice og g off len cap /\ writeCells h og g off xs = some h') {o : Oper} (ho : o.op = .call c) : Res P K w0 μ ((execOp ρ' o).run P w) (.int .i64 (Nat.min b a : Nat)) h' := by
 obtain ⟨cs,he⟩ := exec_builtin (ρ' := ρ') ho hb
 rw [args_two ha] at he
 obtain ⟨ns,q1,q2⟩ := elems_run (P := P) R hy hlb (Nat.min_le_left _ _) hxs
 have hrun : ∀ base len sc,ρ' xo = .slice base len sc -> len = a -> ∀ w',(match base with | some ad => (storeCells ad ns).run P w = .ok () w' | none => w' = w) ->
   (Builtin.copy_ c.argTypes o.type #[ρ' xo,ρ' yo]).run P w = .ok (goInt (Nat.min b a)) w' := by
  intro base len sc hxo hl w' hw'
  subst hl
  unfold Builtin.copy_
  simp only [ht0,hxo,List.getElem?_toArray,List.getElem?_cons_zero,List.getElem?_cons_succ,Sem.run_bind,run_und ht,Result.andThen_ok,lenV_run hy hlb,run_sizeOf hn,q2 w rfl]
  cases base with
  | none => subst hw'; rfl
  | some ad => simp only [Sem.run_bind,hw',Result.andThen_ok]; rfl
 rcases hr with ⟨rfl,rfl⟩ | ⟨og,g,off,len,cap,rfl,hw⟩
 ·have hx' : ρ' xo = .slice none 0 0 := by generalize ρ' xo = x' at hx; cases hx; rfl
  have ha0 : a = 0 := by simp [lenV] at hla; omega
  subst ha0
  exact (Res'.same (x := goInt (Nat.min b 0)) (hrun none 0 0 hx' rfl w rfl) R (.int ..)).call he rfl
 ·have hal : len = a := by simpa [lenV] using hla
  subst hal
  obtain ⟨ad,w',⟨sc,hx'⟩,hs,hR⟩ := R.writeAt hx hw q1 (fun h0 => by
   subst h0
   rw [show Nat.min b 0 = 0 from Nat.min_eq_right (Nat.zero_le _)] at hxs
   exact elemsOf_zero hxs)
  have : Res' P K w0 μ ((Builtin.copy_ c.argTypes o.type #[ρ' xo,ρ' yo]).run P w) (.int .i64 (Nat.min b len : Nat)) h' := ⟨μ,_,w',hrun (some ad) len sc hx' rfl w' hs,Mu.le_refl μ,hR,.int ..⟩
  exact this.call he rfl
theorem op_clear (R : Rel P K w0 μ h w) {c : Call} {xo : Operand} {t e : TypeId} {z x : V} (hb : c.callee = .builtin .clear) (ha : c.args.toList = [xo]) (ht0 : c.argTypes[0]? = some t) (ht : P.underlying t = some (.slice e)) (hz : zeroOf P e = some z) (hzp : 0 < z.cellsOf.length)
  (hx : VR μ x (ρ' xo)) (hr : (x = .nils /\ h' = h) \/ (∃ og g off cap,x = .slice og g off 0 cap /\ h' = h) \/ ∃ og g off len cap,x = .slice og g off (len + 1) cap /\ writeCells h og g off (repl (len + 1) z.cellsOf) = some h') {o : Oper} (ho : o.op = .call c) :
  Res P K w0 μ ((execOp ρ' o).run P w) .undef h' := by
 obtain ⟨cs,he⟩ := exec_builtin (ρ' := ρ') ho hb
 rw [args_one ha] at he
 obtain ⟨i,zx,hi,hzx,hzv⟩ := zeroOf_some hz
 rcases hr with ⟨rfl,rfl⟩ | ⟨og,g,off,cap,rfl,rfl⟩ | ⟨og,g,off,len,cap,rfl,hw⟩
 ·have hx' : ρ' xo = .slice none 0 0 := by generalize ρ' xo = x' at hx; cases hx; rfl
  rw [hx'] at he
  refine (Res'.same (x := .tuple #[]) (r := (Builtin.clear_ c.argTypes o.type #[.slice none 0 0]).run P w) ?_ R (VR.undef μ)).call he rfl
  simp [Builtin.clear_,ht0,run_und ht]
 ·have hx' : ∃ a sc,ρ' xo = .slice (some a) 0 sc := by generalize ρ' xo = x' at hx; cases hx <;> exact ⟨_,_,rfl⟩
  obtain ⟨a,sc,hx'⟩ := hx'
  rw [hx'] at he
  refine (Res'.same (x := .tuple #[]) (r := (Builtin.clear_ c.argTypes o.type #[.slice (some a) 0 sc]).run P w) ?_ R (VR.undef μ)).call he rfl
  simp [Builtin.clear_,ht0,run_und ht]
 ·have hzc := (hzv μ).cells.repl (len + 1)
  have hzpos : 0 < zx.cells.size := by have := (hzv μ).cells.length; simp only [Array.length_toList] at this; omega
  have hzl := map_range_mod zx.cells (len + 1) (.inl hzpos)
  obtain ⟨ad,w',⟨sc,hx'⟩,hs,hR⟩ := R.writeAt hx hw hzc (fun h0 => by cases h0)
  rw [hx'] at he
  have : Res' P K w0 μ ((Builtin.clear_ c.argTypes o.type #[.slice (some ad) (len + 1) sc]).run P w) .undef h' := by
   refine ⟨μ,undef,w',?_,Mu.le_refl μ,hR,VR.undef μ⟩
   unfold Builtin.clear_
   simp only [ht0,List.getElem?_toArray,List.getElem?_cons_zero,Sem.run_bind,run_und ht,Result.andThen_ok,run_zeroValue hi hzx,Builtin.zeroCells,hzl,hs]
   rfl
  exact this.call he rfl
end
end Go.Xr
namespace Go.Xr
open Go.RowKit
section
variable [RoLim] {P : Program} {K : Nat -> Prop} {w0 : World} {μ μ' : Mu} {h h' : Heap} {w w' : World} {ρ : Rd} {ρ' : Operand -> Value}
omit [RoLim] in
theorem partsAt_PR {pl : List (Nat × Nat)} : ∀ {ps' : List (Nat × Operand)} {ps : List (Nat × Nat × Opd)},partsAt pl ps' = some ps -> (∀ x' ∈ ps'.map (·.2),Op2 μ ρ ρ' x') ->
  PR μ (fun (i : Nat) => pl[i]?) (parts ρ ps) (ps'.map fun (i,x) => (i,ρ' x))
 | [],ps,hp,_ => by simp [partsAt] at hp; subst hp; exact .nil
 | (i,x) :: r,ps,hp,ho => by
  simp only [partsAt] at hp
  split at hp <;> simp at hp
  rename_i off n x1 r1 h1 h2 h3
  subst hp
  exact .cons h1 (ho x (by simp) _ h2) (partsAt_PR h3 fun y hy => ho y (by simp only [List.map_cons,List.mem_cons]; exact .inr hy))
omit [RoLim] in
theorem partsBy_PR {n : Nat} : ∀ {ps' : List (Nat × Operand)} {ps : List (Nat × Nat × Opd)},partsBy n ps' = some ps -> (∀ x' ∈ ps'.map (·.2),Op2 μ ρ ρ' x') ->
  PR μ (fun i => some (i * n,n)) (parts ρ ps) (ps'.map fun (i,x) => (i,ρ' x))
 | [],ps,hp,_ => by simp [partsBy] at hp; subst hp; exact .nil
 | (i,x) :: r,ps,hp,ho => by
  simp only [partsBy] at hp
  split at hp <;> simp at hp
  rename_i x1 r1 h2 h3
  subst hp
  exact .cons rfl (ho x (by simp) _ h2) (partsBy_PR h3 fun y hy => ho y (by simp only [List.map_cons,List.mem_cons]; exact .inr hy))
omit [RoLim] in
theorem map_toList (ps' : Array (Nat × Operand)) : (ps'.map fun (i,x) => (i,ρ' x)).toList = ps'.toList.map fun (i,x) => (i,ρ' x) := by simp
omit [RoLim] in
theorem opt_OVR {x' : Option Operand} {x : Option Opd} {m : Option Nat} (hx : opt x' = some x) (ho : ∀ y ∈ x'.toList,Op2 μ ρ ρ' y) (hm : optNat ρ x = some m) : OVR m (x'.map ρ') := by
 cases x' with
 | none => simp [opt] at hx; subst hx; simp [optNat] at hm; subst hm; trivial
 | some y =>
  simp only [opt] at hx
  split at hx <;> simp at hx
  rename_i y1 h1
  subst hx
  simp only [optNat] at hm
  split at hm <;> simp at hm
  rename_i n h2
  subst hm
  exact asNat_VR (ho y (by simp) _ h1) h2
def SoundAt (P : Program) (o : Oper) : Prop :=
 ∀ {K : Nat -> Prop} {w0 : World} {μ : Mu} {h h' : Heap} {w : World} {ρ : Rd} {ρ' : Operand -> Value} {op : XOp} {v : V},compOp P o = some op -> (∀ x' ∈ o.op.operands.toList,Op2 μ ρ ρ' x') -> (∀ v,ρ' (.const v) = v) ->
  Rel P K w0 μ h w -> oEv op ρ h = some (v,h') -> Res P K w0 μ ((execOp ρ' o).run P w) v h'
variable {o : Oper}
theorem snd_move {x' : Operand} (hop : o.op = .move x' \/ o.op = .assign x') : SoundAt P o := by
 intro K w0 μ h h' w ρ ρ' op v hc hρ hk R he
 have hx : ∃ x,opd x' = some x /\ op = .mv x := by
  rcases hop with hop | hop <;> (unfold compOp at hc; rw [hop] at hc; simp only at hc; split at hc <;> simp at hc; exact ⟨_,by assumption,hc.symm⟩)
 obtain ⟨x,h1,rfl⟩ := hx
 simp only [oEv,Option.some.injEq,Prod.mk.injEq] at he
 obtain ⟨rfl,rfl⟩ := he
 have hv : VR μ (ρ x) (ρ' x') := hρ x' (by rcases hop with hop | hop <;> simp [hop,Op.operands]) x h1
 refine Res.same (x := ρ' x') ?_ R hv
 rcases hop with hop | hop <;> simp [execOp,hop]
theorem snd_pick {c a b : Operand} (hop : o.op = .pick c a b) : SoundAt P o := by
 intro K w0 μ h h' w ρ ρ' op v hc hρ hk R he
 unfold compOp at hc
 rw [hop] at hc hρ
 simp only at hc
 split at hc <;> simp at hc
 rename_i c1 a1 b1 h1 h2 h3
 subst hc
 have q1 := hρ c (by simp [Op.operands]) _ h1
 have q2 := hρ a (by simp [Op.operands]) _ h2
 have q3 := hρ b (by simp [Op.operands]) _ h3
 simp only [oEv] at he
 split at he <;> simp at he
 ·rename_i hb
  obtain ⟨rfl,rfl⟩ := he
  rw [hb] at q1
  exact op_pick R q1 (by simpa using q2) hop
 ·rename_i hb
  obtain ⟨rfl,rfl⟩ := he
  rw [hb] at q1
  exact op_pick R q1 (by simpa using q3) hop
theorem snd_alloc {e : TypeId} (hop : o.op = .alloc e) : SoundAt P o := by
 intro K w0 μ h h' w ρ ρ' op v hc hρ hk R he
 unfold compOp at hc
 rw [hop] at hc
 simp only at hc
 split at hc <;> simp at hc
 rename_i z h1
 subst hc
 simp only [oEv,Option.some.injEq,Prod.mk.injEq] at he
 obtain ⟨rfl,rfl⟩ := he
 exact op_alloc R h1 hop
theorem snd_box {e : TypeId} {x' : Operand} (hop : o.op = .box e x') : SoundAt P o := by
 intro K w0 μ h h' w ρ ρ' op v hc hρ hk R he
 unfold compOp at hc
 rw [hop] at hc hρ
 simp only at hc
 split at hc <;> simp at hc
 rename_i x h1
 subst hc
 simp only [oEv,Option.some.injEq,Prod.mk.injEq] at he
 obtain ⟨rfl,rfl⟩ := he
 exact op_box R (hρ x' (by simp [Op.operands]) _ h1) hop
theorem snd_build {t : TypeId} {ps' : Array (Nat × Operand)} (hop : o.op = .build t ps') : SoundAt P o := by
 intro K w0 μ h h' w ρ ρ' op v hc hρ hk R he
 unfold compOp at hc
 rw [hop] at hc hρ
 have hρ' : ∀ x' ∈ ps'.toList.map (·.2),Op2 μ ρ ρ' x' := fun x' hx => hρ x' (by simpa [Op.operands] using hx)
 simp only at hc
 split at hc
 ·rename_i fs z h1 h2
  split at hc <;> try (simp at hc; done)
  rename_i pl h3
  split at hc <;> simp at hc
  rename_i ps h4
  subst hc
  simp only [oEv] at he
  split at he <;> simp at he
  rename_i cs h5
  obtain ⟨rfl,rfl⟩ := he
  exact op_build_struct R h1 h2 h3 (by rw [map_toList]; exact partsAt_PR h4 hρ') h5 hop
 ·rename_i len e z h1 h2
  split at hc <;> try (simp at hc; done)
  rename_i n h3
  split at hc <;> simp at hc
  rename_i ps h4
  subst hc
  simp only [oEv] at he
  split at he <;> simp at he
  rename_i cs h5
  obtain ⟨rfl,rfl⟩ := he
  exact op_build_array R h1 h2 h3 (by rw [map_toList]; exact partsBy_PR h4 hρ') h5 hop
 ·simp at hc
theorem snd_bslice {t : TypeId} {len : Nat} {ps' : Array (Nat × Operand)} (hop : o.op = .buildSlice t len ps') : SoundAt P o := by
 intro K w0 μ h h' w ρ ρ' op v hc hρ hk R he
 unfold compOp at hc
 rw [hop] at hc hρ
 have hρ' : ∀ x' ∈ ps'.toList.map (·.2),Op2 μ ρ ρ' x' := fun x' hx => hρ x' (by simpa [Op.operands] using hx)
 simp only at hc
 split at hc <;> try (simp at hc; done)
 rename_i e h1
 split at hc <;> try (simp at hc; done)
 rename_i n z h2 h3
 split at hc <;> simp at hc
 rename_i ps h4 h5
 subst hc
 simp only [Bool.and_eq_true] at h5
 obtain ⟨⟨q1,q2⟩,q3⟩ := h5
 simp only [oEv] at he
 split at he <;> simp at he
 rename_i cs h6
 obtain ⟨rfl,rfl⟩ := he
 exact op_bslice R (elemOfSlice_some h1) h3 h2 (Nat.eq_of_beq_eq_true q1) (Nat.le_of_ble_eq_true q2) (Nat.le_of_ble_eq_true q3) (by rw [map_toList]; exact partsBy_PR h4 hρ') h6 hop
theorem snd_load {t : TypeId} {a : Operand} (hop : o.op = .load t a) : SoundAt P o := by
 intro K w0 μ h h' w ρ ρ' op v hc hρ hk R he
 unfold compOp at hc
 rw [hop] at hc hρ
 simp only at hc
 split at hc <;> simp at hc
 rename_i g n x h1 h2 h3
 subst hc
 have hx := hρ a (by simp [Op.operands]) _ h3
 simp only [oEv] at he
 split at he <;> try (simp at he; done)
 rename_i o1 g1 off hp
 rw [hp] at hx
 split at he <;> simp at he
 ·rename_i vs q1
  obtain ⟨rfl,rfl⟩ := he
  exact op_load (g := true) R h1 h2 hx q1 rfl hop
 ·rename_i v1 q1
  obtain ⟨rfl,rfl⟩ := he
  exact op_load (g := false) R h1 h2 hx q1 rfl hop
theorem snd_store {t : TypeId} {a y : Operand} (hop : o.op = .store t a y) : SoundAt P o := by
 intro K w0 μ h h' w ρ ρ' op v hc hρ hk R he
 unfold compOp at hc
 rw [hop] at hc hρ
 simp only at hc
 split at hc <;> simp at hc
 rename_i n x y1 h1 h2 h3
 subst hc
 have hx := hρ a (by simp [Op.operands]) _ h2
 have hy := hρ y (by simp [Op.operands]) _ h3
 simp only [oEv] at he
 split at he <;> try (simp at he; done)
 rename_i o1 g1 off hp hl
 rw [hp] at hx
 split at he <;> simp at he
 rename_i h1' q1
 obtain ⟨rfl,rfl⟩ := he
 exact op_store R h1 hx hy (Nat.eq_of_beq_eq_true hl) q1 hop
theorem snd_nilCheck {x' : Operand} (hop : o.op = .nilCheck x') : SoundAt P o := by
 intro K w0 μ h h' w ρ ρ' op v hc hρ hk R he
 unfold compOp at hc
 rw [hop] at hc hρ
 simp only at hc
 split at hc <;> simp at hc
 rename_i x h1
 subst hc
 have hx := hρ x' (by simp [Op.operands]) _ h1
 simp only [oEv] at he
 split at he <;> simp at he
 rename_i q1 q2 q3 q4 q5 q6 q7
 obtain ⟨rfl,rfl⟩ := he
 exact op_nilCheck R hx ⟨q1,q2,q3,q5,q6⟩ hop
omit [RoLim] in
theorem isIface_cls {t : TypeId} (hc : clsOf P t = some .iface) : isIface P t = true := by
 unfold clsOf at hc
 split at hc <;> simp at hc
 rename_i m hm
 simp [isIface,hm]
theorem snd_bin {op0 : BinOp} {t u : TypeId} {x' y' : Operand} (hop : o.op = .binOp op0 t x' y' u) : SoundAt P o := by
 intro K w0 μ h h' w ρ ρ' op v hc hρ hk R he
 unfold compOp at hc
 rw [hop] at hc hρ
 simp only at hc
 split at hc <;> try (simp at hc; done)
 rename_i c x y h1 h2 h3
 split at hc <;> simp at hc
 rename_i hif
 subst hc
 have hx := hρ x' (by simp [Op.operands]) _ h2
 have hy := hρ y' (by simp [Op.operands]) _ h3
 simp only [oEv] at he
 split at he <;> simp at he
 rename_i v1 q1
 obtain ⟨rfl,rfl⟩ := he
 refine op_bin R h1 hx hy (fun hci => ?_) q1 hop
 subst hci
 rw [isIface_cls h1] at hif
 simp at hif
 cases hcx : isConst x' with
 | true => rfl
 | false => simp [hif hcx]
theorem snd_un {op0 : UnOp} {t : TypeId} {x' : Operand} (hop : o.op = .unOp op0 t x') : SoundAt P o := by
 intro K w0 μ h h' w ρ ρ' op v hc hρ hk R he
 unfold compOp at hc
 rw [hop] at hc hρ
 simp only at hc
 split at hc <;> simp at hc
 rename_i x h1
 subst hc
 have hx := hρ x' (by simp [Op.operands]) _ h1
 simp only [oEv] at he
 split at he <;> simp at he
 rename_i v1 q1
 obtain ⟨rfl,rfl⟩ := he
 exact op_un R hx q1 hop
theorem snd_convert {s d : TypeId} {x' : Operand} (hop : o.op = .convert s d x') : SoundAt P o := by
 intro K w0 μ h h' w ρ ρ' op v hc hρ hk R he
 unfold compOp at hc
 rw [hop] at hc hρ
 simp only at hc
 split at hc <;> simp at hc
 rename_i sd k x h1 h2 h3
 subst hc
 have hx := hρ x' (by simp [Op.operands]) _ h3
 simp only [oEv] at he
 split at he <;> simp at he
 rename_i k0 n q1
 obtain ⟨rfl,rfl⟩ := he
 rw [q1] at hx
 exact op_conv R h1 h2 hx hop
theorem snd_makeInterface {t : TypeId} {x' : Operand} (hop : o.op = .makeInterface t x') : SoundAt P o := by
 intro K w0 μ h h' w ρ ρ' op v hc hρ hk R he
 unfold compOp at hc
 rw [hop] at hc hρ
 simp only at hc
 split at hc <;> simp at hc
 rename_i d x hn h1 h2
 subst hc
 have hx := hρ x' (by simp [Op.operands]) _ h2
 simp only [oEv,Option.some.injEq,Prod.mk.injEq] at he
 obtain ⟨rfl,rfl⟩ := he
 exact op_mkif R h1 (fun m e => hn m e) hx hop
theorem snd_makeFunc {f : Fn} {fs cs : Array Operand} (hop : o.op = .makeFunc f fs cs) : SoundAt P o := by
 intro K w0 μ h h' w ρ ρ' op v hc hρ hk R he
 unfold compOp at hc
 rw [hop] at hc hρ
 cases f <;> simp only at hc <;> try (simp at hc; done)
 split at hc <;> simp at hc
 rename_i f a b h1 h2
 subst hc
 simp only [oEv,Option.some.injEq,Prod.mk.injEq] at he
 obtain ⟨rfl,rfl⟩ := he
 exact op_mkfunc R (opds_VRs h1 fun x' hx => hρ x' (by simp [Op.operands]; exact .inl (by simpa using hx))) (opds_VRs h2 fun x' hx => hρ x' (by simp [Op.operands]; exact .inr (by simpa using hx))) hop
theorem snd_makeMap {t : TypeId} {r : Option Operand} (hop : o.op = .makeMap t r) : SoundAt P o := by
 intro K w0 μ h h' w ρ ρ' op v hc hρ hk R he
 unfold compOp at hc
 rw [hop] at hc hρ
 simp only at hc
 split at hc <;> simp at hc
 ·rename_i kd e h1
  subst hc
  simp only [oEv,Option.some.injEq,Prod.mk.injEq] at he
  obtain ⟨rfl,rfl⟩ := he
  exact op_mkmap R h1 (.inl rfl) hk hop
 ·rename_i kd e k n h1
  subst hc
  simp only [oEv,Option.some.injEq,Prod.mk.injEq] at he
  obtain ⟨rfl,rfl⟩ := he
  exact op_mkmap R h1 (.inr ⟨_,_,rfl⟩) hk hop
theorem snd_makeSlice {t : TypeId} {l c : Operand} (hop : o.op = .makeSlice t l c) : SoundAt P o := by
 intro K w0 μ h h' w ρ ρ' op v hc hρ hk R he
 unfold compOp at hc
 rw [hop] at hc hρ
 simp only at hc
 split at hc <;> try (simp at hc; done)
 rename_i e h1
 split at hc <;> try (simp at hc; done)
 rename_i n z b l1 c1 h2 h3 h4 h5 h6
 split at hc <;> simp at hc
 rename_i hq
 simp only [Bool.and_eq_true] at hq
 obtain ⟨⟨q1,q2⟩,q3⟩ := hq
 subst hc
 have hl := hρ l (by simp [Op.operands]) _ h5
 have hcv := hρ c (by simp [Op.operands]) _ h6
 simp only [oEv] at he
 split at he <;> try (simp at he; done)
 rename_i ln cn r1 r2
 split at he <;> simp at he
 rename_i r3 r4
 obtain ⟨rfl,rfl⟩ := he
 exact op_mkslice R (elemOfSlice_some h1) h3 h2 h4 (Nat.eq_of_beq_eq_true q1) (Nat.le_of_ble_eq_true q2) (Nat.le_of_ble_eq_true q3) hl hcv r1 r2 (Nat.le_of_ble_eq_true r3) (Nat.le_of_ble_eq_true r4) hop
theorem snd_slice {t : TypeId} {x' : Operand} {lo hi mx : Option Operand} (hop : o.op = .slice t x' lo hi mx) : SoundAt P o := by
 intro K w0 μ h h' w ρ ρ' op v hc hρ hk R he
 unfold compOp at hc
 rw [hop] at hc hρ
 simp only at hc
 split at hc <;> try (simp at hc; done)
 rename_i e x lo1 hi1 mx1 h1 h2 h3 h4 h5
 split at hc <;> simp at hc
 rename_i n h6 h7
 subst hc
 have hx := hρ x' (by simp [Op.operands]) _ h2
 simp only [oEv] at he
 split at he <;> try (simp at he; done)
 rename_i a b c r1 r2 r3
 split at he <;> simp at he
 rename_i v1 r4
 obtain ⟨rfl,rfl⟩ := he
 have q1 := opt_OVR h3 (fun y hy => hρ y (by simp [Op.operands]; simp at hy; simp [hy])) r1
 have q2 := opt_OVR h4 (fun y hy => hρ y (by simp [Op.operands]; simp at hy; simp [hy])) r2
 have q3 := opt_OVR h5 (fun y hy => hρ y (by simp [Op.operands]; simp at hy; simp [hy])) r3
 refine op_slc R (elemOfSlice_some h1) h6 hx q1 q2 q3 (fun hs => ?_) r4 hop
 cases mx1 with
 | none => simp [optNat] at r3; subst r3; simp at hs
 | some m =>
  cases hi1 with
  | none => simp at h7
  | some hi1 => simp only [optNat] at r2; split at r2 <;> simp at r2; subst r2; rfl
theorem snd_fieldAddr {s : TypeId} {x' : Operand} {f : Nat} (hop : o.op = .fieldAddr s x' f) : SoundAt P o := by
 intro K w0 μ h h' w ρ ρ' op v hc hρ hk R he
 unfold compOp at hc
 rw [hop] at hc hρ
 simp only at hc
 split at hc <;> try (simp at hc; done)
 rename_i fs x h1 h2
 split at hc <;> try (simp at hc; done)
 rename_i fd h3
 split at hc <;> simp at hc
 rename_i n h4
 subst hc
 have hx := hρ x' (by simp [Op.operands]) _ h2
 simp only [oEv] at he
 split at he <;> simp at he
 rename_i o1 g1 a q1
 obtain ⟨rfl,rfl⟩ := he
 rw [q1] at hx
 exact op_faddr R h1 h3 h4 hx hop
theorem snd_field {s : TypeId} {x' : Operand} {f : Nat} (hop : o.op = .field s x' f) : SoundAt P o := by
 intro K w0 μ h h' w ρ ρ' op v hc hρ hk R he
 unfold compOp at hc
 rw [hop] at hc hρ
 simp only at hc
 split at hc <;> try (simp at hc; done)
 rename_i fs x h1 h2
 split at hc <;> try (simp at hc; done)
 rename_i fd h3
 split at hc <;> simp at hc
 rename_i n g h4 h5
 subst hc
 have hx := hρ x' (by simp [Op.operands]) _ h2
 simp only [oEv] at he
 split at he <;> try (simp at he; done)
 rename_i cs q1
 rw [q1] at hx
 split at he <;> try (simp at he; done)
 ·split at he <;> simp at he
  rename_i q2
  obtain ⟨rfl,rfl⟩ := he
  exact op_fld (g := true) R h1 h3 h4 h5 hx ⟨fun _ => ⟨Nat.le_of_ble_eq_true q2,rfl⟩,fun q => by simp at q⟩ hop
 ·rename_i v1 q2
  simp at he
  obtain ⟨rfl,rfl⟩ := he
  exact op_fld (g := false) R h1 h3 h4 h5 hx ⟨fun q => by simp at q,fun _ => q2⟩ hop
theorem snd_indexAddr {t : TypeId} {x' i' : Operand} (hop : o.op = .indexAddr t x' i') : SoundAt P o := by
 intro K w0 μ h h' w ρ ρ' op v hc hρ hk R he
 unfold compOp at hc
 rw [hop] at hc hρ
 simp only at hc
 split at hc <;> try (simp at hc; done)
 ·rename_i e x i h1 h2 h3
  split at hc <;> simp at hc
  rename_i n h4
  subst hc
  have hx := hρ x' (by simp [Op.operands]) _ h2
  have hi := hρ i' (by simp [Op.operands]) _ h3
  simp only [oEv] at he
  split at he <;> try (simp at he; done)
  rename_i o1 g1 off len cap i1 q1 q2
  split at he <;> simp at he
  rename_i q3
  obtain ⟨rfl,rfl⟩ := he
  rw [q1] at hx
  exact op_iaddr R h1 h4 hx hi q2 (Nat.le_of_ble_eq_true q3) hop
 ·rename_i len e x i h1 h2 h3
  split at hc <;> simp at hc
  rename_i n h4
  subst hc
  have hx := hρ x' (by simp [Op.operands]) _ h2
  have hi := hρ i' (by simp [Op.operands]) _ h3
  simp only [oEv] at he
  split at he <;> try (simp at he; done)
  rename_i o1 g1 off i1 q1 q2
  split at he <;> simp at he
  rename_i q3
  obtain ⟨rfl,rfl⟩ := he
  rw [q1] at hx
  exact op_iaddrA R h1 h4 hx hi q2 (Nat.le_of_ble_eq_true q3) hop
theorem snd_index {t : TypeId} {x' i' : Operand} (hop : o.op = .index t x' i') : SoundAt P o := by
 intro K w0 μ h h' w ρ ρ' op v hc hρ hk R he
 unfold compOp at hc
 rw [hop] at hc hρ
 simp only at hc
 split at hc <;> simp at hc
 rename_i x i h1 h2 h3
 subst hc
 have hx := hρ x' (by simp [Op.operands]) _ h2
 have hi := hρ i' (by simp [Op.operands]) _ h3
 simp only [oEv] at he
 split at he <;> try (simp at he; done)
 rename_i s i1 q1 q2
 split at he <;> simp at he
 rename_i b q3
 obtain ⟨rfl,rfl⟩ := he
 rw [q1] at hx
 exact op_sidx R h1 hx hi q2 q3 hop
theorem snd_lookup {t : TypeId} {x' i' : Operand} {ok : Bool} (hop : o.op = .lookup t x' i' ok) : SoundAt P o := by
 intro K w0 μ h h' w ρ ρ' op v hc hρ hk R he
 unfold compOp at hc
 rw [hop] at hc hρ
 simp only at hc
 split at hc <;> try (simp at hc; done)
 rename_i kd e x i h1 h2 h3
 split at hc <;> simp at hc
 rename_i z h4
 subst hc
 have hx := hρ x' (by simp [Op.operands]) _ h2
 have hi := hρ i' (by simp [Op.operands]) _ h3
 simp only [oEv] at he
 split at he <;> try (simp at he; done)
 ·rename_i k n q1 q2
  split at he <;> simp at he
  obtain ⟨rfl,rfl⟩ := he
  rw [q2] at hi
  exact op_lookup R h1 h4 hi hx (.inl ⟨q1,rfl⟩) hop
 ·rename_i om k n q1 q2
  split at he <;> try (simp at he; done)
  rename_i kd' es ins q3
  split at he <;> simp at he
  rename_i q4
  have q4 := kindEq_eq q4
  subst q4
  obtain ⟨rfl,rfl⟩ := he
  rw [q2] at hi
  exact op_lookup R h1 h4 hi hx (.inr ⟨_,_,_,q1,q3,rfl⟩) hop
theorem snd_mapup {t : TypeId} {m' k' v' : Operand} (hop : o.op = .mapUpdate t m' k' v' \/ o.op = .insert t m' k' v') : SoundAt P o := by
 intro K w0 μ h h' w ρ ρ' op v hc hρ hk R he
 have hx : ∃ kd e m k v,mapOf P t = some (kd,e) /\ opd m' = some m /\ opd k' = some k /\ opd v' = some v /\ op = .mapup kd m k v := by
  rcases hop with hop | hop <;> (unfold compOp at hc; rw [hop] at hc; simp only at hc; split at hc <;> simp at hc; exact ⟨_,_,_,_,_,by assumption,by assumption,by assumption,by assumption,hc.symm⟩)
 obtain ⟨kd,e,m,k,v1,h1,h2,h3,h4,rfl⟩ := hx
 have hm := hρ m' (by rcases hop with hop | hop <;> simp [hop,Op.operands]) _ h2
 have hkk := hρ k' (by rcases hop with hop | hop <;> simp [hop,Op.operands]) _ h3
 have hv := hρ v' (by rcases hop with hop | hop <;> simp [hop,Op.operands]) _ h4
 simp only [oEv] at he
 split at he <;> try (simp at he; done)
 rename_i om k n q1 q2
 split at he <;> try (simp at he; done)
 rename_i kd' es ins q3
 split at he <;> try (simp at he; done)
 rename_i q4
 rw [Bool.and_eq_true] at q4
 obtain ⟨q4,q5⟩ := q4
 have q4 := kindEq_eq q4
 subst q4
 simp only [Option.some.injEq,Prod.mk.injEq] at he
 obtain ⟨rfl,rfl⟩ := he
 rw [q1] at hm
 rw [q2] at hkk
 exact op_mapup R h1 hm hkk hv q3 q5 hop
theorem snd_mentry {t : TypeId} {m' k' : Operand} (hop : o.op = .mapEntry t m' k') : SoundAt P o := by
 intro K w0 μ h h' w ρ ρ' op v hc hρ hk R he
 have hx : ∃ kd e m k z,mapOf P t = some (kd,e) /\ opd m' = some m /\ opd k' = some k /\ zeroOf P e = some z /\ op = .mentry z m k := by
  unfold compOp at hc
  rw [hop] at hc
  simp only at hc
  split at hc <;> try (simp at hc; done)
  split at hc <;> simp at hc
  exact ⟨_,_,_,_,_,by assumption,by assumption,by assumption,by assumption,hc.symm⟩
 obtain ⟨kd,e,m,k,z,h1,h2,h3,h4,rfl⟩ := hx
 have hm := hρ m' (by simp [hop,Op.operands]) _ h2
 have hkk := hρ k' (by simp [hop,Op.operands]) _ h3
 simp only [oEv] at he
 split at he <;> try (simp at he; done)
 rename_i om k n q1 q2
 split at he <;> try (simp at he; done)
 rename_i kd' es ins q3
 split at he <;> try (simp at he; done)
 ·rename_i v0 q4 q5
  have q4 := kindEq_eq q4
  subst q4
  split at he <;> try (cases he; done)
  rename_i q6
  simp only [Option.some.injEq,Prod.mk.injEq] at he
  obtain ⟨rfl,rfl⟩ := he
  rw [q1] at hm
  rw [q2] at hkk
  exact op_mentry R h1 h4 hm hkk q3 (.inl ⟨q5,rfl⟩) q6 hop
 ·rename_i q4 q5
  have q4 := kindEq_eq q4
  subst q4
  split at he <;> try (cases he; done)
  rename_i q6
  simp only [Option.some.injEq,Prod.mk.injEq] at he
  obtain ⟨rfl,rfl⟩ := he
  rw [q1] at hm
  rw [q2] at hkk
  exact op_mentry R h1 h4 hm hkk q3 (.inr ⟨q5,rfl,rfl⟩) q6 hop
theorem snd_estore {t : TypeId} {m' s' v' : Operand} (hop : o.op = .entryStore t m' s' v') : SoundAt P o := by
 intro K w0 μ h h' w ρ ρ' op v hc hρ hk R he
 have hx : ∃ m s v,opd m' = some m /\ opd s' = some s /\ opd v' = some v /\ op = .estore m s v := by
  unfold compOp at hc
  rw [hop] at hc
  simp only at hc
  split at hc <;> simp at hc
  exact ⟨_,_,_,by assumption,by assumption,by assumption,hc.symm⟩
 obtain ⟨m,s,v1,h1,h2,h3,rfl⟩ := hx
 have hm := hρ m' (by simp [hop,Op.operands]) _ h1
 have hs := hρ s' (by simp [hop,Op.operands]) _ h2
 have hv := hρ v' (by simp [hop,Op.operands]) _ h3
 simp only [oEv] at he
 split at he <;> try (simp at he; done)
 rename_i om o2 q1 q2
 split at he <;> try (simp at he; done)
 rename_i kd es ins q3
 split at he <;> try (simp at he; done)
 rename_i k q4 q5
 simp only [Option.some.injEq,Prod.mk.injEq] at he
 obtain ⟨rfl,rfl⟩ := he
 rw [q1] at hm
 rw [q2] at hs
 exact op_estore R hm hs hv q3 q4 q5 hop
theorem snd_range {t : TypeId} {x' : Operand} (hop : o.op = .range t x') : SoundAt P o := by
 intro K w0 μ h h' w ρ ρ' op v hc hρ hk R he
 unfold compOp at hc
 rw [hop] at hc hρ
 simp only at hc
 split at hc <;> simp at hc
 rename_i kd e x h1 h2
 subst hc
 have hx := hρ x' (by simp [Op.operands]) _ h2
 simp only [oEv] at he
 split at he <;> try (simp at he; done)
 ·rename_i q1
  simp at he
  obtain ⟨rfl,rfl⟩ := he
  rw [q1] at hx
  exact op_range_nil R h1 hx hop
 ·rename_i om q1
  split at he <;> simp at he
  rename_i kd' es ins q2
  obtain ⟨rfl,rfl⟩ := he
  rw [q1] at hx
  exact op_range R h1 hx q2 hop
theorem snd_entry {x' : Operand} (hop : o.op = .entry x') : SoundAt P o := by
 intro K w0 μ h h' w ρ ρ' op v hc hρ hk R he
 unfold compOp at hc
 rw [hop] at hc hρ
 simp only at hc
 split at hc <;> simp at hc
 rename_i x h1
 subst hc
 have hx := hρ x' (by simp [Op.operands]) _ h1
 simp only [oEv] at he
 split at he <;> try (simp at he; done)
 rename_i oi q1
 split at he <;> try (simp at he; done)
 rename_i m ins k q2 q3
 split at he <;> try (simp at he; done)
 rename_i kd es ins' q4
 split at he <;> simp at he
 rename_i v1 q5 q6
 obtain ⟨rfl,rfl⟩ := he
 rw [q1] at hx
 have q5 := Nat.eq_of_beq_eq_true q5
 subst q5
 exact op_entry R hx q3 q4 q6 hop
theorem snd_typeAssert {x' : Operand} {xt t : TypeId} {ok : Bool} (hop : o.op = .typeAssert x' xt t ok) : SoundAt P o := by
 intro K w0 μ h h' w ρ ρ' op v hc hρ hk R he
 unfold compOp at hc
 rw [hop] at hc hρ
 simp only at hc
 split at hc <;> simp at hc
 rename_i d x z hn h1 h2 h3
 subst hc
 have hx := hρ x' (by simp [Op.operands]) _ h2
 simp only [oEv] at he
 split at he <;> try (simp at he; done)
 ·rename_i t' y q1
  split at he <;> simp at he
  all_goals (obtain ⟨rfl,rfl⟩ := he)
  ·rename_i q2
   exact op_tassert R h1 (fun m e => hn m e) h3 hx (.inl ⟨_,_,q1,.inl ⟨Nat.eq_of_beq_eq_true q2,rfl⟩⟩) hop
  ·rename_i q2
   exact op_tassert R h1 (fun m e => hn m e) h3 hx (.inl ⟨_,_,q1,.inl ⟨Nat.eq_of_beq_eq_true q2,rfl⟩⟩) hop
  ·rename_i q2
   exact op_tassert R h1 (fun m e => hn m e) h3 hx (.inl ⟨_,_,q1,.inr ⟨fun e => (by rw [e,Nat.beq_refl] at q2; cases q2),rfl,rfl⟩⟩) hop
 ·rename_i q1
  split at he <;> simp at he
  obtain ⟨rfl,rfl⟩ := he
  exact op_tassert R h1 (fun m e => hn m e) h3 hx (.inr ⟨q1,rfl,rfl⟩) hop
theorem snd_extract {x' : Operand} {i : Nat} (hop : o.op = .extract x' i) : SoundAt P o := by
 intro K w0 μ h h' w ρ ρ' op v hc hρ hk R he
 unfold compOp at hc
 rw [hop] at hc hρ
 simp only at hc
 split at hc <;> simp at hc
 rename_i x h1
 subst hc
 have hx := hρ x' (by simp [Op.operands]) _ h1
 simp only [oEv] at he
 split at he <;> try (simp at he; done)
 rename_i vs q1
 split at he <;> simp at he
 rename_i v1 q2
 obtain ⟨rfl,rfl⟩ := he
 rw [q1] at hx
 exact op_extract R hx q2 hop
end
end Go.Xr
namespace Go.Xr
open Go.RowKit
section
variable [RoLim] {P : Program} {o : Oper}
omit [RoLim] in
theorem call_mem {c : Call} {x' : Operand} {b : Builtin} (hb : c.callee = .builtin b) (hx : x' ∈ c.args.toList) : x' ∈ c.operands.toList := by
 simp [Call.operands,hb]
 simpa using hx
omit [RoLim] in
theorem len_slice_inv {ρ : Rd} {h h' : Heap} {x : Opd} {v : V} (he : oEv (.len .slice x) ρ h = some (v,h')) : h' = h /\ ∃ n : Nat,v = .int .i64 (n : Int) /\ ((ρ x = .nils /\ n = 0) \/ ∃ o g off cap,ρ x = .slice o g off n cap) := by
 simp only [oEv] at he
 cases hx : ρ x <;> rw [hx] at he <;> simp at he
 ·obtain ⟨rfl,rfl⟩ := he; exact ⟨rfl,0,rfl,.inl ⟨rfl,rfl⟩⟩
 ·obtain ⟨rfl,rfl⟩ := he; exact ⟨rfl,_,rfl,.inr ⟨_,_,_,_,rfl⟩⟩
omit [RoLim] in
theorem len_str_inv {ρ : Rd} {h h' : Heap} {x : Opd} {v : V} (he : oEv (.len .str x) ρ h = some (v,h')) : h' = h /\ ∃ s : ByteArray,v = .int .i64 (s.size : Int) /\ ρ x = .str s := by
 simp only [oEv] at he
 cases hx : ρ x <;> rw [hx] at he <;> simp at he
 obtain ⟨rfl,rfl⟩ := he; exact ⟨rfl,_,rfl,rfl⟩
omit [RoLim] in
theorem len_map_inv {ρ : Rd} {h h' : Heap} {x : Opd} {v : V} (he : oEv (.len .map x) ρ h = some (v,h')) :
  h' = h /\ ∃ n : Nat,v = .int .i64 (n : Int) /\ ((ρ x = .nilm /\ n = 0) \/ ∃ o kd es ins,ρ x = .map o /\ h.get o = some (.map kd es ins) /\ n = es.length) := by
 simp only [oEv] at he
 cases hx : ρ x <;> rw [hx] at he <;> try (simp at he; done)
 ·simp at he; obtain ⟨rfl,rfl⟩ := he; exact ⟨rfl,0,rfl,.inl ⟨rfl,rfl⟩⟩
 ·rename_i om
  simp only at he
  split at he <;> simp at he
  obtain ⟨rfl,rfl⟩ := he
  exact ⟨rfl,_,rfl,.inr ⟨_,_,_,_,rfl,by assumption,rfl⟩⟩
theorem snd_call {c : Call} (hop : o.op = .call c) : SoundAt P o := by
 intro K w0 μ h h' w ρ ρ' op v hc hρ hk R he
 unfold compOp at hc
 rw [hop] at hc hρ
 simp only [Op.operands] at hc hρ
 unfold compCall at hc
 split at hc
 ·split at hc <;> simp at hc; subst hc; simp [oEv] at he
 ·split at hc <;> simp at hc; subst hc; simp [oEv] at he
 ·-- len
  rename_i x' hb ha
  split at hc <;> try (simp at hc; done)
  rename_i x t h1 h2
  have hx := hρ x' (call_mem hb (by rw [ha]; simp)) _ h1
  split at hc <;> simp at hc <;> subst hc
  ·rename_i e h3
   obtain ⟨rfl,n,rfl,hn⟩ := len_slice_inv he
   exact op_len_slice R hb ha h2 h3 hx hn hop
  ·rename_i h3
   obtain ⟨rfl,s,rfl,hn⟩ := len_str_inv he
   rw [hn] at hx
   exact op_len_str R hb ha h2 h3 hx hop
  ·rename_i k e h3
   obtain ⟨rfl,n,rfl,hn⟩ := len_map_inv he
   exact op_len_map R hb ha h2 h3 hx hn hop
 ·-- cap
  rename_i x' hb ha
  split at hc <;> try (simp at hc; done)
  rename_i x t h1 h2
  have hx := hρ x' (call_mem hb (by rw [ha]; simp)) _ h1
  split at hc <;> simp at hc
  rename_i e h3
  subst hc
  simp only [oEv] at he
  split at he <;> simp at he
  ·obtain ⟨rfl,rfl⟩ := he
   exact op_cap R hb ha h2 h3 hx (.inl ⟨by assumption,rfl⟩) hop
  ·obtain ⟨rfl,rfl⟩ := he
   exact op_cap R hb ha h2 h3 hx (.inr ⟨_,_,_,_,by assumption⟩) hop
 ·-- append
  rename_i x' y' hb ha
  split at hc <;> try (simp at hc; done)
  rename_i x y t h1 h2 h3
  have hx := hρ x' (call_mem hb (by rw [ha]; simp)) _ h1
  have hy := hρ y' (call_mem hb (by rw [ha]; simp)) _ h2
  split at hc <;> try (simp at hc; done)
  rename_i e h4
  split at hc <;> try (simp at hc; done)
  rename_i n b u h5 h6 h7
  have h4 := elemOfSlice_some h4
  have app : ∀ (d : TypeDesc) (z : V),P.underlying u = some d -> ((∃ e',d = .slice e') \/ d = .string) -> zeroOf P e = some z -> Nat.blt 0 b = true -> z.cellsOf.length = n -> op = .append n b x y -> Res P K w0 μ ((execOp ρ' o).run P w) v h' := by
   intro d z hu hd hz hb0 hzl hopx
   subst hopx
   simp only [oEv] at he
   split at he <;> try (simp at he; done)
   rename_i m r1
   split at he <;> try (simp at he; done)
   rename_i xs r2
   split at he <;> try (simp at he; done)
   rename_i r3
   exact op_append R hb ha h3 h7 h4 hu hd hz h5 h6 (Nat.le_of_ble_eq_true hb0) hzl hx hy r1 r2 (Nat.eq_of_beq_eq_true r3) he hop
  split at hc <;> try (simp at hc; done)
  ·rename_i k z h8 h9
   split at hc <;> simp at hc
   rename_i hq
   simp only [Bool.and_eq_true] at hq
   subst hc
   simp only [oEv] at he
   split at he <;> try (simp at he; done)
   rename_i m r1
   split at he <;> try (simp at he; done)
   rename_i r2
   exact op_appendZ R hb ha h3 h7 h4 h8 h9 h5 h6 (Nat.le_of_ble_eq_true hq.2) (Nat.eq_of_beq_eq_true hq.1) hx hy r1 (Nat.le_of_ble_eq_true r2) he hop
  ·rename_i e' z h8 h9
   split at hc <;> simp at hc
   rename_i hq
   simp only [Bool.and_eq_true] at hq
   exact app _ z h8 (.inl ⟨_,rfl⟩) h9 hq.2 (Nat.eq_of_beq_eq_true hq.1) hc.symm
  ·rename_i z h8 h9
   split at hc <;> simp at hc
   rename_i hq
   simp only [Bool.and_eq_true] at hq
   exact app _ z h8 (.inr rfl) h9 hq.2 (Nat.eq_of_beq_eq_true hq.1) hc.symm
 ·-- copy
  rename_i x' y' hb ha
  split at hc <;> try (simp at hc; done)
  rename_i x y t h1 h2 h3
  have hx := hρ x' (call_mem hb (by rw [ha]; simp)) _ h1
  have hy := hρ y' (call_mem hb (by rw [ha]; simp)) _ h2
  split at hc <;> try (simp at hc; done)
  rename_i e h4
  split at hc <;> simp at hc
  rename_i n h5
  subst hc
  simp only [oEv] at he
  split at he <;> try (simp at he; done)
  rename_i a b r1 r2
  split at he <;> try (simp at he; done)
  ·rename_i xs r3 r4
   simp at he
   obtain ⟨rfl,rfl⟩ := he
   exact op_copy R hb ha h3 (elemOfSlice_some h4) h5 hx hy r1 r2 r3 (.inl ⟨r4,rfl⟩) hop
  ·rename_i xs og g off len cap r3 r4
   split at he <;> simp at he
   rename_i h1' r5
   obtain ⟨rfl,rfl⟩ := he
   exact op_copy R hb ha h3 (elemOfSlice_some h4) h5 hx hy r1 r2 r3 (.inr ⟨_,_,_,_,_,r4,r5⟩) hop
 ·-- clear
  rename_i x' hb ha
  split at hc <;> try (simp at hc; done)
  rename_i x t h1 h2
  have hx := hρ x' (call_mem hb (by rw [ha]; simp)) _ h1
  split at hc <;> try (simp at hc; done)
  ·rename_i e h3
   split at hc <;> try (simp at hc; done)
   rename_i n z h4 h5
   split at hc <;> simp at hc
   rename_i hq
   simp only [Bool.and_eq_true] at hq
   have hzp : 0 < z.cellsOf.length := by rw [Nat.eq_of_beq_eq_true hq.1]; exact Nat.le_of_ble_eq_true hq.2
   subst hc
   simp only [oEv] at he
   split at he <;> try (simp at he; done)
   ·simp at he
    obtain ⟨rfl,rfl⟩ := he
    exact op_clear R hb ha h2 h3 h5 hzp hx (.inl ⟨by assumption,rfl⟩) hop
   ·rename_i og g off len cap r1
    split at he
    ·simp at he
     obtain ⟨rfl,rfl⟩ := he
     exact op_clear R hb ha h2 h3 h5 hzp hx (.inr (.inl ⟨_,_,_,_,r1,rfl⟩)) hop
    ·split at he <;> simp at he
     rename_i h1' r5
     obtain ⟨rfl,rfl⟩ := he
     exact op_clear R hb ha h2 h3 h5 hzp hx (.inr (.inr ⟨_,_,_,_,_,r1,r5⟩)) hop
  ·rename_i k e h3
   simp at hc
   subst hc
   simp only [oEv] at he
   split at he <;> try (simp at he; done)
   ·simp at he
    obtain ⟨rfl,rfl⟩ := he
    exact op_clearM R hb ha h2 h3 hx (.inl ⟨by assumption,rfl⟩) hop
   ·split at he <;> simp at he
    obtain ⟨rfl,rfl⟩ := he
    exact op_clearM R hb ha h2 h3 hx (.inr ⟨_,_,_,_,by assumption,by assumption,rfl⟩) hop
 ·-- delete
  rename_i x' y' hb ha
  split at hc <;> try (simp at hc; done)
  rename_i x y t h1 h2 h3
  have hx := hρ x' (call_mem hb (by rw [ha]; simp)) _ h1
  have hy := hρ y' (call_mem hb (by rw [ha]; simp)) _ h2
  split at hc <;> simp at hc
  rename_i kd e h4
  subst hc
  simp only [oEv] at he
  split at he <;> try (simp at he; done)
  ·rename_i k n r1 r2
   simp at he
   obtain ⟨rfl,rfl⟩ := he
   rw [r2] at hy
   exact op_delete R hb ha h3 h4 hx hy (.inl ⟨r1,rfl⟩) hop
  ·rename_i om k n r1 r2
   split at he <;> try (simp at he; done)
   rename_i kd' es ins r3
   split at he <;> simp at he
   rename_i r4
   have r4 := kindEq_eq r4
   subst r4
   obtain ⟨rfl,rfl⟩ := he
   rw [r2] at hy
   exact op_delete R hb ha h3 h4 hx hy (.inr ⟨_,_,_,r1,r3,rfl⟩) hop
 ·rename_i x' y' hb ha
  split at hc <;> simp at hc
  rename_i x y h1 h2
  subst hc
  have hx := hρ x' (call_mem hb (by rw [ha]; simp)) _ h1
  have hy := hρ y' (call_mem hb (by rw [ha]; simp)) _ h2
  simp only [oEv] at he
  split at he <;> try (simp at he; done)
  rename_i k a k' b r1 r2
  split at he <;> try (simp at he; done)
  simp only [Option.some.injEq,Prod.mk.injEq] at he
  obtain ⟨rfl,rfl⟩ := he
  rw [r1] at hx
  rw [r2] at hy
  exact op_minmax (b := true) R hb ha hx hy hop
 ·rename_i x' y' hb ha
  split at hc <;> simp at hc
  rename_i x y h1 h2
  subst hc
  have hx := hρ x' (call_mem hb (by rw [ha]; simp)) _ h1
  have hy := hρ y' (call_mem hb (by rw [ha]; simp)) _ h2
  simp only [oEv] at he
  split at he <;> try (simp at he; done)
  rename_i k a k' b r1 r2
  split at he <;> try (simp at he; done)
  simp only [Option.some.injEq,Prod.mk.injEq] at he
  obtain ⟨rfl,rfl⟩ := he
  rw [r1] at hx
  rw [r2] at hy
  exact op_minmax (b := false) R hb ha hx hy hop
 ·simp at hc
theorem op_sound (P : Program) (o : Oper) : SoundAt P o := by
 intro K w0 μ h h' w ρ ρ' op v hc hρ hk R he
 cases hop : o.op
 case move x => exact snd_move (.inl hop) hc hρ hk R he
 case assign x => exact snd_move (.inr hop) hc hρ hk R he
 case pick => exact snd_pick hop hc hρ hk R he
 case alloc => exact snd_alloc hop hc hρ hk R he
 case box => exact snd_box hop hc hρ hk R he
 case build => exact snd_build hop hc hρ hk R he
 case buildSlice => exact snd_bslice hop hc hρ hk R he
 case load => exact snd_load hop hc hρ hk R he
 case store => exact snd_store hop hc hρ hk R he
 case nilCheck => exact snd_nilCheck hop hc hρ hk R he
 case binOp => exact snd_bin hop hc hρ hk R he
 case unOp => exact snd_un hop hc hρ hk R he
 case convert => exact snd_convert hop hc hρ hk R he
 case makeInterface => exact snd_makeInterface hop hc hρ hk R he
 case makeFunc => exact snd_makeFunc hop hc hρ hk R he
 case makeMap => exact snd_makeMap hop hc hρ hk R he
 case makeSlice => exact snd_makeSlice hop hc hρ hk R he
 case slice => exact snd_slice hop hc hρ hk R he
 case fieldAddr => exact snd_fieldAddr hop hc hρ hk R he
 case field => exact snd_field hop hc hρ hk R he
 case indexAddr => exact snd_indexAddr hop hc hρ hk R he
 case index => exact snd_index hop hc hρ hk R he
 case lookup => exact snd_lookup hop hc hρ hk R he
 case mapUpdate => exact snd_mapup (.inl hop) hc hρ hk R he
 case insert => exact snd_mapup (.inr hop) hc hρ hk R he
 case mapEntry => exact snd_mentry hop hc hρ hk R he
 case entryStore => exact snd_estore hop hc hρ hk R he
 case range => exact snd_range hop hc hρ hk R he
 case entry => exact snd_entry hop hc hρ hk R he
 case typeAssert => exact snd_typeAssert hop hc hρ hk R he
 case extract => exact snd_extract hop hc hρ hk R he
 case call => exact snd_call hop hc hρ hk R he
 case next x b =>
  unfold compOp at hc
  rw [hop] at hc
  cases b <;> simp only at hc <;> try (simp at hc; done)
  split at hc <;> simp at hc
  subst hc
  simp [oEv] at he
 case defer c =>
  unfold compOp at hc
  rw [hop] at hc
  simp only at hc
  split at hc <;> try (simp at hc; done)
  split at hc <;> simp at hc
  subst hc
  simp [oEv] at he
 all_goals (unfold compOp at hc; rw [hop] at hc; simp at hc)
end
end Go.Xr
namespace Go.Xr
open Go.RowKit
def fat (b : Frame) (a : Act) (todo : List Item) : Frame :=
 { fn := b.fn,tmps := a.tmps,todo,defers := a.defers,mode := .run,kind := b.kind,roundOf := b.roundOf }
theorem eval_fat (b : Frame) (a : Act) (todo : List Item) : (fat b a todo).eval = a.eval := by
 funext x; cases x <;> rfl
theorem finish_fat (b : Frame) (a : Act) (ops : Array Oper) (i : Nat) (rest : List Nat) (k : List Item) (v : Value) :
  (fat b a (.inRegion ops (i :: rest) :: k)).finish v = fat b (a.put ((ops[i]?).bind (·.dst)) v) (.inRegion ops rest :: k) := by
 cases h : (ops[i]?).bind (·.dst) <;> simp [Frame.finish,fat,Act.put,h]
section
variable [RoLim] {P : Program} {b : Frame} {a : Act} {k : List Item} {cs : List Frame} {w : World}
omit [RoLim] in
theorem fat_skip : step P (lone (fat b a (.code .skip :: k)) cs w) = .next (lone (fat b a k) cs w) :=
 step_lone_go (by simp [stepG,stepG.exec,fat])
omit [RoLim] in
theorem fat_label {l : Nat} : step P (lone (fat b a (.code (.label l) :: k)) cs w) = .next (lone (fat b a k) cs w) :=
 step_lone_go (by simp [stepG,stepG.exec,fat])
omit [RoLim] in
theorem fat_scope {c : Code} : step P (lone (fat b a (.code (.scope c) :: k)) cs w) = .next (lone (fat b a (.code c :: .inScope c :: k)) cs w) :=
 step_lone_go (by simp [stepG,stepG.exec,fat])
omit [RoLim] in
theorem fat_inScope {c : Code} : step P (lone (fat b a (.inScope c :: k)) cs w) = .next (lone (fat b a k) cs w) :=
 step_lone_go (by simp [stepG,stepG.exec,fat])
omit [RoLim] in
theorem fat_inBlock {id : Nat} : step P (lone (fat b a (.inBlock id :: k)) cs w) = .next (lone (fat b a k) cs w) :=
 step_lone_go (by simp [stepG,stepG.exec,fat])
omit [RoLim] in
theorem fat_seq {x y : Code} : step P (lone (fat b a (.code (.seq x y) :: k)) cs w) = .next (lone (fat b a (.code x :: .code y :: k)) cs w) :=
 step_lone_go (by simp [stepG,stepG.exec,fat])
omit [RoLim] in
theorem fat_cond {c : Operand} {x y : Code} {t : Bool} (h : a.eval c = .bool t) :
  step P (lone (fat b a (.code (.cond c x y) :: k)) cs w) = .next (lone (fat b a (.code (if t then x else y) :: k)) cs w) :=
 step_lone_go (by
  have := eval_fat b a (.code (.cond c x y) :: k)
  simp only [fat] at this
  simp [stepG,stepG.exec,fat,this,h])
omit [RoLim] in
theorem fat_block {id : Nat} {c : Code} : step P (lone (fat b a (.code (.block id c) :: k)) cs w) = .next (lone (fat b a (.code c :: .inBlock id :: k)) cs w) :=
 step_lone_go (by simp [stepG,stepG.exec,fat])
omit [RoLim] in
theorem fat_loop {c : Code} : step P (lone (fat b a (.code (.loop c) :: k)) cs w) = .next (lone (fat b a (.code c :: .inLoop c :: k)) cs w) :=
 step_lone_go (by simp [stepG,stepG.exec,fat])
omit [RoLim] in
theorem fat_inLoop {c : Code} : step P (lone (fat b a (.inLoop c :: k)) cs w) = .next (lone (fat b a (.code c :: .inLoop c :: k)) cs w) :=
 step_lone_go (by simp [stepG,stepG.exec,fat])
omit [RoLim] in
theorem fat_exit {id : Nat} {k' : List Item} (h : exitTo id k = some k') : step P (lone (fat b a (.code (.exit id) :: k)) cs w) = .next (lone (fat b a k') cs w) :=
 step_lone_go (by simp [stepG,stepG.exec,fat,h])
omit [RoLim] in
theorem fat_ret (hb : b.roundOf = none) : step P (lone (fat b a (.code .ret :: k)) cs w) = .next (lone { fat b a (.code .ret :: k) with mode := .returning } cs w) :=
 step_lone_go (by simp [stepG,stepG.exec,fat,hb])
omit [RoLim] in
theorem fat_end (hb : b.roundOf = none) : step P (lone (fat b a []) cs w) = .next (lone { fat b a [] with mode := .returning } cs w) :=
 step_lone_go (by simp [stepG,stepG.exec,fat,hb])
omit [RoLim] in
theorem fat_region {id : Nat} {ops : Array Oper} : step P (lone (fat b a (.code (.region id ops false) :: k)) cs w) = .next (lone (fat b a (.inRegion ops (List.range ops.size) :: k)) cs w) :=
 step_lone_go (by simp [stepG,stepG.exec,fat])
omit [RoLim] in
theorem fat_region_draw {id : Nat} {ops : Array Oper} :
  step P (lone (fat b a (.code (.region id ops true) :: k)) cs w) =
   .next (lone (fat b a (.inRegion ops (Region.schedule (P.follows .mixedOrders) ops (w.tape w.drawn (.order b.fn id))) :: k)) cs { w with drawn := w.drawn + 1 }) :=
 step_lone_go (by simp [stepG,stepG.exec,fat,choose,Sem.run,Question.forced,Question.cut])
omit [RoLim] in
theorem fat_region_end {ops : Array Oper} : step P (lone (fat b a (.inRegion ops [] :: k)) cs w) = .next (lone (fat b a k) cs w) :=
 step_lone_go (by simp [stepG,stepG.exec,fat])
variable {ops : Array Oper}
omit [RoLim] in
theorem fat_op_skip {i : Nat} {rest : List Nat} {o : Oper} (ho : ops[i]? = some o) (h : Region.wanted o (yielded ops a.tmps) = false) :
  step P (lone (fat b a (.inRegion ops (i :: rest) :: k)) cs w) = .next (lone (fat b (a.put o.dst undef) (.inRegion ops rest :: k)) cs w) := by
 have := finish_fat b a ops i rest k undef
 rw [ho] at this
 rw [show (Option.bind (some o) fun x => x.dst) = o.dst from rfl] at this
 rw [<- this]
 exact step_lone_go (by simp only [fat] at *; simp [stepG,stepG.exec,ho,h])
omit [RoLim] in
theorem stepG_fat_op {i : Nat} {rest : List Nat} {o : Oper} (ho : ops[i]? = some o) (hw : Region.wanted o (yielded ops a.tmps) = true) (hr : b.roundOf = none \/ ∀ c,o.op ≠ .defer c) :
  stepG P true { frame := fat b a (.inRegion ops (i :: rest) :: k),callers := cs,status := .running,dying := none } w =
   stepG.apply P true (fat b a (.inRegion ops (i :: rest) :: k)) cs none (execOp a.eval o) w := by
 have he := eval_fat b a (.inRegion ops (i :: rest) :: k)
 simp only [fat] at he
 rcases hr with hr | hr
 ·simp [stepG,stepG.exec,stepG.oper,Frame.oper?,fat,ho,hw,hr]
  simp only [hr] at he
  rw [he]
 ·simp only [stepG,stepG.exec,stepG.oper,Frame.oper?,fat,ho,hw,Option.map_some,Option.getD_some,if_true]
  rw [he]
  split
  ·rename_i l c h1 h2
   exact absurd h2 (hr c)
  ·rfl
omit [RoLim] in
theorem fat_op_value {i : Nat} {rest : List Nat} {o : Oper} (ho : ops[i]? = some o) (hw : Region.wanted o (yielded ops a.tmps) = true) (hr : b.roundOf = none \/ ∀ c,o.op ≠ .defer c) {v : Value} {w' : World} {n : Next} (hx : (execOp a.eval o).run P w = .ok n w')
  (hn : n = .value v \/ (n = .skip /\ v = undef)) :
  step P (lone (fat b a (.inRegion ops (i :: rest) :: k)) cs w) = .next (lone (fat b (a.put o.dst v) (.inRegion ops rest :: k)) cs w') := by
 have := finish_fat b a ops i rest k v
 rw [ho] at this
 rw [show (Option.bind (some o) fun x => x.dst) = o.dst from rfl] at this
 rw [<- this]
 refine step_lone_go ?_
 rw [stepG_fat_op ho hw hr]
 rcases hn with rfl | ⟨rfl,rfl⟩ <;> simp [stepG.apply,hx]
omit [RoLim] in
theorem fat_op_defer {i : Nat} {rest : List Nat} {o : Oper} (ho : ops[i]? = some o) (hw : Region.wanted o (yielded ops a.tmps) = true) (hr : b.roundOf = none) {d : Deferred} {w' : World} (hx : (execOp a.eval o).run P w = .ok (.defer d) w') :
  step P (lone (fat b a (.inRegion ops (i :: rest) :: k)) cs w) = .next (lone (fat b (({ a with defers := d :: a.defers } : Act).put o.dst undef) (.inRegion ops rest :: k)) cs w') := by
 have := finish_fat b { a with defers := d :: a.defers } ops i rest k undef
 rw [ho] at this
 rw [show (Option.bind (some o) fun x => x.dst) = o.dst from rfl] at this
 rw [<- this]
 refine step_lone_go ?_
 rw [stepG_fat_op ho hw (.inl hr)]
 simp [stepG.apply,hx,fat]
def Entered (P : Program) : Next -> Frame -> Prop
 | .enter f args,fr => fr = Frame.enter P f args .normal
 | .round l f tmps assign body,fr => fr = Frame.round l f tmps assign body .normal
 | _,_ => False
omit [RoLim] in
theorem fat_op_enter {i : Nat} {rest : List Nat} {o : Oper} (ho : ops[i]? = some o) (hw : Region.wanted o (yielded ops a.tmps) = true) (hr : b.roundOf = none \/ ∀ c,o.op ≠ .defer c) {n : Next} {fr : Frame} {w' : World}
  (hx : (execOp a.eval o).run P w = .ok n w') (hn : Entered P n fr) :
  step P (lone (fat b a (.inRegion ops (i :: rest) :: k)) cs w) = .next (lone fr (fat b a (.inRegion ops (i :: rest) :: k) :: cs) w') := by
 refine step_lone_go ?_
 rw [stepG_fat_op ho hw hr]
 cases n <;> simp only [Entered] at hn <;> subst hn <;> simp [stepG.apply,hx,fat]
omit [RoLim] in
theorem fat_beginRound {l : Nat} {r : Loop} (hb : b.roundOf = some l) (hl : w.heap[l]? = some (.loop r)) (hs : r.state = .ready) :
  step P (lone (fat b a (.beginRound :: k)) cs w) = .next (lone (fat b a k) cs { w with heap := w.heap.setIfInBounds l (.loop { r with state := .busy }) }) := by
 refine step_lone_go ?_
 have h1 : (getObj l).run P w = .ok (.loop r) w := run_getObj hl (fun _ _ _ q => by cases q)
 have h2 : (setObj l (.loop { r with state := .busy })).run P w = .ok () { w with heap := w.heap.setIfInBounds l (.loop { r with state := .busy }) } := run_setObj hl (fun _ _ _ q => by cases q)
 have h3 : (Instr.beginRound l).run P w = .ok () { w with heap := w.heap.setIfInBounds l (.loop { r with state := .busy }) } := by
  simp only [Sem.run_bind,Instr.beginRound,Instr.getLoop,h1,Result.andThen_ok,Sem.run_pure,h2,hs]
 simp only [stepG,stepG.exec,fat]
 simp [stepG.apply,hb,h3,Frame.finish]
inductive Ends : List Item -> Option Code -> Prop
 | nil : Ends [] none
 | ret (k : List Item) : Ends (.code .ret :: k) (some .ret)
 | exit (id : Nat) (k : List Item) (h : exitTo id k = none) : Ends (.code (.exit id) :: k) (some (.exit id))
omit [RoLim] in
theorem fat_endRound {l : Nat} {r : Loop} {jump : Option Code} {todo : List Item} {c : Frame} (hb : b.roundOf = some l) (hk : b.kind = .normal) (hl : w.heap[l]? = some (.loop r)) (he : Ends todo jump) :
  step P (lone (fat b a todo) (c :: cs) w) =
   .next (lone (c.finish (.bool jump.isNone)) cs { w with heap := w.heap.setIfInBounds l (.loop { r with state := if jump.isNone then .ready else .done,pending := jump }) }) := by
 refine step_lone_go ?_
 have h1 : (getObj l).run P w = .ok (.loop r) w := run_getObj hl (fun _ _ _ q => by cases q)
 have h2 : (setObj l (.loop { r with state := if jump.isNone then .ready else .done,pending := jump })).run P w = .ok () { w with heap := w.heap.setIfInBounds l (.loop { r with state := if jump.isNone then .ready else .done,pending := jump }) } := run_setObj hl (fun _ _ _ q => by cases q)
 have h3 : (Instr.endRound l jump).run P w = .ok (.bool jump.isNone) { w with heap := w.heap.setIfInBounds l (.loop { r with state := if jump.isNone then .ready else .done,pending := jump }) } := by
  simp only [Sem.run_bind,Instr.endRound,Instr.getLoop,h1,Result.andThen_ok,Sem.run_pure,h2]
 cases he with
 | nil => simp only [stepG,stepG.exec,fat,hb,Sem.runT_eq,h3]; simp [doReturn,hk]
 | ret k => simp only [stepG,stepG.exec,fat,hb,Sem.runT_eq,h3]; simp [doReturn,hk]
 | exit id k h => simp only [stepG,stepG.exec,fat,hb,h,Option.elim_none,Sem.runT_eq,h3]; simp [doReturn,hk]
omit [RoLim] in
theorem fat_endLoop {l : Nat} {r : Loop} (hl : w.heap[l]? = some (.loop r)) (hs : r.state ≠ .busy) :
  step P (lone (fat b a (.endRangeFunc l :: k)) cs w) = .next (lone (fat b a ((r.pending.map Item.code).toList ++ k)) cs { w with heap := w.heap.setIfInBounds l (.loop { r with state := .exhausted }) }) := by
 refine step_lone_go ?_
 have h1 : (getObj l).run P w = .ok (.loop r) w := run_getObj hl (fun _ _ _ q => by cases q)
 have h2 : (setObj l (.loop { r with state := .exhausted })).run P w = .ok () { w with heap := w.heap.setIfInBounds l (.loop { r with state := .exhausted }) } := run_setObj hl (fun _ _ _ q => by cases q)
 have hs' : (r.state == .busy) = false := by cases hr : r.state <;> first | rfl | (exact absurd hr hs)
 have h3 : (Instr.endLoop l).run P w = .ok r.pending { w with heap := w.heap.setIfInBounds l (.loop { r with state := .exhausted }) } := by
  simp only [Sem.run_bind,Instr.endLoop,Instr.getLoop,h1,Result.andThen_ok,Sem.run_pure,hs',Bool.false_eq_true,if_false,h2]
 simp only [stepG,stepG.exec,fat,Sem.runT_eq,h3]
 simp
omit [RoLim] in
theorem fat_rangeFunc {f : Operand} {params : Array Tmp} {as bo : Code} {l : Nat} {mark : List Deferred} {w1 w2 : World} {n : Next} {fr : Frame}
  (h1 : (Instr.enterLoop b.fn a.tmps params as bo b.roundOf).run P w = .ok (l,mark) w1)
  (h2 : (do let d <- Deferred.ofValue (a.eval f) #[.func (.yield l) #[] #[]]; invoke d.target d.args : Sem Next).run P w1 = .ok n w2) (hn : Entered P n fr) :
  step P (lone (fat b a (.code (.rangeFunc f params as bo) :: k)) cs w) = .next (lone fr (fat b { a with defers := mark ++ a.defers } (.inRangeFunc l :: k) :: cs) w2) := by
 refine step_lone_go ?_
 have he := eval_fat b { a with defers := mark ++ a.defers } (.inRangeFunc l :: k)
 have h2' : (do let d <- resolve (fat b { a with defers := mark ++ a.defers } (.inRangeFunc l :: k)).eval { callee := .value f,args := #[.const (.func (.yield l) #[] #[])],argTypes := #[] } 0; invoke d.target d.args : Sem Next).run P w1 = .ok n w2 := by
  rw [he]
  have e1 : (({ a with defers := mark ++ a.defers } : Act).eval f) = a.eval f := by cases f <;> rfl
  simpa [resolve,e1,Act.eval] using h2
 simp only [fat] at h2'
 simp only [stepG,stepG.exec,fat,Sem.runT_eq,h1]
 cases n <;> simp only [Entered] at hn <;> subst hn <;> simp [stepG.apply,h2']
omit [RoLim] in
theorem finish_rangeFunc {l : Nat} {v : Value} : (fat b a (.inRangeFunc l :: k)).finish v = fat b a (.endRangeFunc l :: k) := by simp [Frame.finish,fat]
end
end Go.Xr
namespace Go.Xr
open Go.RowKit
inductive DRs (μ : Mu) : List XDef -> List Deferred -> Prop
 | nil : DRs μ [] []
 | call {f : Nat} {args : List V} {caps xs : Array Value} {D : List XDef} {ds : List Deferred} (h : VRs μ args (xs.toList ++ caps.toList)) (hr : DRs μ D ds) : DRs μ (.call f args :: D) ({ target := .fn (.func f) caps,args := xs } :: ds)
 | coll {o : Nat} {l : Loc} {D : List XDef} {ds : List Deferred} (h : μ o 0 = some l) (hr : DRs μ D ds) : DRs μ (.collected o :: D) ({ target := .collected l.blk,args := #[] } :: ds)
theorem DRs.mono {μ μ' : Mu} (hle : μ.le μ') {D : List XDef} {ds : List Deferred} (h : DRs μ D ds) : DRs μ' D ds := by
 induction h with
 | nil => exact .nil
 | call h _ ih => exact .call (h.mono hle) ih
 | coll h _ ih => exact .coll (hle _ _ _ h) ih
def RndR (μ : Mu) : Option Nat -> Option Nat -> Prop
 | none,none => True
 | some o,some b => ∃ l,μ o 0 = some l /\ l.blk = b
 | _,_ => False
theorem RndR.mono {μ μ' : Mu} (hle : μ.le μ') {x y : Option Nat} (h : RndR μ x y) : RndR μ' x y := by
 cases x <;> cases y <;> first | exact h | (obtain ⟨l,h1,h2⟩ := h; exact ⟨l,hle _ _ _ h1,h2⟩)
structure Aft [RoLim] (P : Program) (K : Nat -> Prop) (w0 : World) (μ μ' : Mu) (v : V) (h : Heap) (x : Value) (w : World) : Prop where
 le : μ.le μ'
 rel : Rel P K w0 μ' h w
 val : VR μ' v x
def Func.real (fn : Func) : Prop := fn.name ≠ "runtime.NumGoroutine" /\ fn.body.isSome = true
def kindOf : Bool -> CallKind
 | true => .deferred
 | false => .normal
def CallWP [RoLim] (P : Program) (dk : Bool) (f : Nat) (args : List V) (h : Heap) (Q : V -> Heap -> Prop) : Prop :=
 ∃ fn,P.funcs[f]? = some fn /\ Func.real fn /\
 ∀ (K : Nat -> Prop) (w0 : World) (μ : Mu) (w : World) (args' : List Value) (cs : List Frame),Rel P K w0 μ h w -> VRs μ args args' ->
  ∃ v h' μ' w' fr x,Q v h' /\ Aft P K w0 μ μ' v h' x w' /\ Steps P (lone (Frame.enter P f args'.toArray (kindOf dk)) cs w) (lone fr cs w') /\
   fr.fn = f /\ fr.mode = .returning /\ fr.defers = [] /\ fr.kind = kindOf dk /\ (results fn fr.tmps).run P w' = .ok x w'
def RoundWP [RoLim] (P : Program) (o : Nat) (args : List V) (h : Heap) (Q : V -> Heap -> Prop) : Prop :=
 ∀ (K : Nat -> Prop) (w0 : World) (μ : Mu) (w : World) (args' : List Value) (l : Loc) (c : Frame) (cs : List Frame),Rel P K w0 μ h w -> VRs μ args args' -> μ o 0 = some l ->
  ∃ fn tmps as bo,(Instr.yield l.blk args'.toArray).run P w = .ok (.round l.blk fn tmps as bo) w /\
   ∃ v h' μ' w' x,Q v h' /\ Aft P K w0 μ μ' v h' x w' /\ Steps P (lone (Frame.round l.blk fn tmps as bo .normal) (c :: cs) w) (lone (c.finish x) cs w')
def ApplyWP [RoLim] (P : Program) (f : V) (args : List V) (h : Heap) (Q : V -> Heap -> Prop) : Prop :=
 ∀ (K : Nat -> Prop) (w0 : World) (μ : Mu) (w : World) (f' : Value) (args' : Array Value) (c : Frame) (cs : List Frame),Rel P K w0 μ h w -> VR μ f f' -> VRs μ args args'.toList ->
  ∃ n fr,(do let d <- Deferred.ofValue f' args'; invoke d.target d.args : Sem Next).run P w = .ok n w /\ Entered P n fr /\
   ∃ v h' μ' w' x,Q v h' /\ Aft P K w0 μ μ' v h' x w' /\ Steps P (lone fr (c :: cs) w) (lone (c.finish x) cs w')
def StepWP [RoLim] (P : Program) (s : XStep) (rnd : Option Nat) (t : Tr V) (d : List XDef) (h : Heap) (Q : V -> List XDef -> Heap -> Prop) : Prop :=
 ∀ (K : Nat -> Prop) (w0 : World) (μ : Mu) (w : World) (b : Frame) (a : Act) (k : List Item) (cs : List Frame) (ops : Array Oper) (i : Nat) (rest : List Nat) (o : Oper) (n : Nat),
  compStep P n ops o = some s -> ops[i]? = some o -> RndR μ rnd b.roundOf -> Rel P K w0 μ h w -> (∀ x ∈ names ops o,VR μ (sO t x) (a.tmps.getD x undef)) -> DRs μ d a.defers ->
  ∃ v d' h' μ' ds x w',Q v d' h' /\ Aft P K w0 μ μ' v h' x w' /\ DRs μ' d' ds /\
   Steps P (lone (fat b a (.inRegion ops (i :: rest) :: k)) cs w) (lone (fat b (({ a with defers := ds } : Act).put o.dst x) (.inRegion ops rest :: k)) cs w')
section
variable [RoLim] {P : Program}
theorem CallWP.mono {dk : Bool} {f : Nat} {args : List V} {h : Heap} {Q Q' : V -> Heap -> Prop} (hw : CallWP P dk f args h Q) (hq : ∀ v h,Q v h -> Q' v h) : CallWP P dk f args h Q' := by
 obtain ⟨fn,h1,h2,h3⟩ := hw
 refine ⟨fn,h1,h2,fun K w0 μ w args' cs R hv => ?_⟩
 obtain ⟨v,h',μ',w',fr,x,q,r⟩ := h3 K w0 μ w args' cs R hv
 exact ⟨v,h',μ',w',fr,x,hq _ _ q,r⟩
theorem ApplyWP.mono {f : V} {args : List V} {h : Heap} {Q Q' : V -> Heap -> Prop} (hw : ApplyWP P f args h Q) (hq : ∀ v h,Q v h -> Q' v h) : ApplyWP P f args h Q' := by
 intro K w0 μ w f' args' c cs R hf hv
 obtain ⟨n,fr,h1,h2,v,h',μ',w',x,q,r⟩ := hw K w0 μ w f' args' c cs R hf hv
 exact ⟨n,fr,h1,h2,v,h',μ',w',x,hq _ _ q,r⟩
omit [RoLim] in
theorem run_callFunc {f : Nat} {fn : Func} {args : Array Value} {w : World} (hf : P.funcs[f]? = some fn) (hr : Func.real fn) : (callFunc f args).run P w = .ok (.enter f args) w := by
 obtain ⟨h1,h2⟩ := hr
 cases hb : fn.body with
 | none => simp [hb] at h2
 | some c => simp [callFunc,hf,h1,hb]
omit [RoLim] in
theorem fr_leaves {fr c : Frame} {cs : List Frame} {w : World} {f : Nat} {fn : Func} {x : Value} (hf : P.funcs[f]? = some fn) (h1 : fr.fn = f) (h2 : fr.mode = .returning) (h3 : fr.defers = []) (h4 : fr.kind = .normal) (h5 : (results fn fr.tmps).run P w = .ok x w) :
  step P (lone fr (c :: cs) w) = .next (lone (c.finish x) cs w) := by
 subst h1
 exact step_leave_returned ⟨h2,h3,h4,fn,hf,h5⟩
omit [RoLim] in
theorem entered_enter (f : Nat) (args : Array Value) : Entered P (.enter f args) (Frame.enter P f args .normal) := rfl
omit [RoLim] in
theorem entered_round (l f : Nat) (tmps : Array Value) (as bo : Code) : Entered P (.round l f tmps as bo) (Frame.round l f tmps as bo .normal) := rfl
theorem apply_call {g : Nat} {first args caps : List V} {h : Heap} {Q : V -> Heap -> Prop} (hw : CallWP P false g (first ++ (args ++ caps)) h Q) : ApplyWP P (.func g first caps) args h Q := by
 obtain ⟨fn,h1,h2,h3⟩ := hw
 intro K w0 μ w f' args' c cs R hf hv
 cases hf with
 | @func _ _ _ a' b' ha hb =>
  obtain ⟨v,h',μ',w',fr,x,q,r1,r2,r3,r4,r5,r6,r7⟩ := h3 K w0 μ w (a' ++ (args'.toList ++ b')) (c :: cs) R (ha.append (hv.append hb))
  refine ⟨.enter g (a' ++ (args'.toList ++ b')).toArray,Frame.enter P g (a' ++ (args'.toList ++ b')).toArray  .normal,?_,entered_enter _ _,v,h',μ',w',x,q,r1,Steps.trans r2 (.one (fr_leaves h1 r3 r4 r5 r6 r7))⟩
  have : a'.toArray ++ args' ++ b'.toArray = (a' ++ (args'.toList ++ b')).toArray := by apply Array.ext'; simp
  simp [Deferred.ofValue,invoke,run_callFunc h1 h2,this]
theorem apply_round {o : Nat} {args : List V} {h : Heap} {Q : V -> Heap -> Prop} (hw : RoundWP P o args h Q) : ApplyWP P (.yield o) args h Q := by
 intro K w0 μ w f' args' c cs R hf hv
 cases hf with
 | @yield _ l hl =>
  obtain ⟨fn,tmps,as,bo,h1,v,h',μ',w',x,q,r1,r2⟩ := hw K w0 μ w args'.toList l c cs R hv hl
  refine ⟨_,_,?_,entered_round _ _ _ _ _,v,h',μ',w',x,q,r1,r2⟩
  simpa [Deferred.ofValue,invoke] using h1
omit [RoLim] in
theorem compStep_some {n : Nat} {ops : Array Oper} {o : Oper} {s : XStep} (hc : compStep P n ops o = some s) :
  s.op = (match compOp P o with | some op => op | none => .bad) /\ guardOf ops o.guard = some s.guard /\ s.dst = o.dst /\ (∀ d,o.dst = some d -> d < n) := by
 have hm : ∀ op,(match compOp P o with | some op => some op | none => some XOp.bad) = some op -> op = (match compOp P o with | some op => op | none => .bad) := by
  intro op hop
  cases hco : compOp P o with
  | none => rw [hco] at hop; simp at hop; exact hop.symm
  | some op1 => rw [hco] at hop; simp at hop; exact hop.symm
 unfold compStep at hc
 split at hc <;> try (simp at hc; done)
 rename_i op g h1 h2
 split at hc
 ·rename_i d hd
  split at hc <;> simp at hc
  rename_i hlt
  subst hc
  refine ⟨?_,h2,hd.symm,fun d' hd' => ?_⟩
  ·exact hm op h1
  ·rw [hd] at hd'; cases hd'; exact Nat.le_of_ble_eq_true hlt
 ·rename_i hd
  simp at hc
  subst hc
  refine ⟨?_,h2,hd.symm,fun d' hd' => ?_⟩
  ·exact hm op h1
  ·rw [hd] at hd'; cases hd'
omit [RoLim] in
theorem wanted_eq {μ : Mu} {ops : Array Oper} {o : Oper} {s : XStep} {t : Tr V} {tmps : Array Value} (hg : guardOf ops o.guard = some s.guard) (hn : ∀ x ∈ names ops o,VR μ (sO t x) (tmps.getD x undef)) {w : Bool} (hw : wantedV t s.guard = some w) :
  Region.wanted o (yielded ops tmps) = w := by
 unfold guardOf at hg
 split at hg
 ·rename_i h0
  injection hg with hg
  rw [<- hg] at hw
  simp only [wantedV,Option.some.injEq] at hw
  subst hw
  simp [Region.wanted,h0]
 ·rename_i j want h0
  split at hg <;> try (cases hg; done)
  rename_i oj hj
  split at hg <;> try (cases hg; done)
  rename_i dd hd
  injection hg with hg
  rw [<- hg] at hw
  have hm : dd ∈ names ops o := by
   unfold names
   refine List.mem_append_right _ ?_
   simp [h0,hj,hd]
  have hv := hn dd hm
  have hy : yielded ops tmps j = match tmps[dd]? with | some (.bool b) => some b | _ => none := by
   unfold yielded
   rw [hj]
   simp only [Option.bind_some,hd]
   cases tmps[dd]? with
   | none => rfl
   | some x => cases x <;> rfl
  unfold Region.wanted
  simp only [wantedV] at hw
  simp only [h0]
  rw [hy]
  have hgd : tmps.getD dd undef = (tmps[dd]?).getD undef := by simp
  rw [hgd] at hv
  cases ht : tmps[dd]? with
  | none =>
   rw [ht] at hv
   simp only [Option.getD_none,undef] at hv
   cases hs : sO t dd <;> rw [hs] at hv hw <;> cases hv <;> simp at hw
   subst hw
   simp
  | some x =>
   rw [ht] at hv
   simp only [Option.getD_some] at hv
   cases hs : sO t dd <;> rw [hs] at hv hw <;> cases hv <;> simp at hw <;> subst hw <;> simp
   all_goals (cases want <;> first | (rename_i bb; cases bb <;> rfl) | skip)
omit [RoLim] in
theorem op2_of {μ : Mu} {ops : Array Oper} {o : Oper} {t : Tr V} {a : Act} (hn : ∀ x ∈ names ops o,VR μ (sO t x) (a.tmps.getD x undef)) : ∀ x' ∈ o.op.operands.toList,Op2 μ (rd t) a.eval x' := by
 intro x' hx' x hx
 cases x' with
 | tmp i =>
  simp only [opd,Option.some.injEq] at hx
  subst hx
  exact hn i (List.mem_append_left _ (List.mem_filterMap.2 ⟨.tmp i,hx',rfl⟩))
 | const c =>
  simp only [opd] at hx
  split at hx <;> simp at hx
  rename_i v hv
  subst hx
  exact const_VR hv
 | func f =>
  simp only [opd,Option.some.injEq] at hx
  subst hx
  exact .func .nil .nil
 | global g => simp [opd] at hx
theorem step_skipped {s : XStep} {rnd : Option Nat} {t : Tr V} {d : List XDef} {h : Heap} {Q : V -> List XDef -> Heap -> Prop} (hw : wantedV t s.guard = some false) (q : Q .undef d h) : StepWP P s rnd t d h Q := by
 intro K w0 μ w b a k cs ops i rest o n hc ho hrnd R hn hd
 obtain ⟨h1,h2,h3,h4⟩ := compStep_some hc
 exact ⟨_,d,h,μ,a.defers,undef,w,q,⟨Mu.le_refl μ,R,VR.undef μ⟩,hd,.one (fat_op_skip ho (wanted_eq h2 hn hw))⟩
theorem step_res {s : XStep} {rnd : Option Nat} {t : Tr V} {d : List XDef} {h : Heap} {Q : V -> List XDef -> Heap -> Prop} (hw : wantedV t s.guard = some true) (hs : ∀ f args,s.op ≠ .defer f args)
  (hr : ∀ (K : Nat -> Prop) (w0 : World) (μ : Mu) (w : World) (o : Oper) (ρ' : Operand -> Value),compOp P o = some s.op -> (∀ x' ∈ o.op.operands.toList,Op2 μ (rd t) ρ' x') -> (∀ v,ρ' (.const v) = v) -> Rel P K w0 μ h w ->
   ∃ v h',Q v d h' /\ Res P K w0 μ ((execOp ρ' o).run P w) v h') (hb : s.op ≠ .bad) : StepWP P s rnd t d h Q := by
 intro K w0 μ w b a k cs ops i rest o n hc ho hrnd R hn hd
 obtain ⟨h1,h2,h3,h4⟩ := compStep_some hc
 have hc1 : compOp P o = some s.op := by
  cases hco : compOp P o with
  | none => rw [hco] at h1; exact absurd h1 hb
  | some op => rw [hco] at h1; rw [h1]
 obtain ⟨v,h',q,μ',x,w',nx,r1,r2,r3,r4,r5⟩ := hr K w0 μ w o a.eval hc1 (op2_of hn) (fun _ => rfl) R
 refine ⟨v,d,h',μ',a.defers,x,w',q,⟨r3,r4,r5⟩,hd.mono r3,.one (fat_op_value ho (wanted_eq h2 hn hw) ?_ r1 r2)⟩
 refine .inr fun c hcd => ?_
 unfold compOp at hc1
 rw [hcd] at hc1
 simp only at hc1
 split at hc1 <;> try (simp at hc1; done)
 split at hc1 <;> simp at hc1
 exact hs _ _ hc1.symm
theorem step_op {s : XStep} {rnd : Option Nat} {t : Tr V} {d : List XDef} {h h' : Heap} {v : V} {Q : V -> List XDef -> Heap -> Prop} (hw : wantedV t s.guard = some true) (he : oEv s.op (rd t) h = some (v,h')) (q : Q v d h') : StepWP P s rnd t d h Q :=
 step_res hw (fun f args e => by rw [e] at he; simp [oEv] at he) (fun K w0 μ w o ρ' hc hρ hk R => ⟨v,h',q,op_sound P o hc hρ hk R he⟩) (fun e => by rw [e] at he; simp [oEv] at he)
omit [RoLim] in
theorem comp_call {o : Oper} {f : Opd} {args : List Opd} (hc : compOp P o = some (.call f args)) : ∃ c f' ,o.op = .call c /\ c.callee = .value f' /\ opd f' = some f /\ opds c.args.toList = some args := by
 cases hop : o.op
 case call c =>
  unfold compOp at hc
  rw [hop] at hc
  simp only at hc
  refine ⟨c,?_⟩
  unfold compCall at hc
  split at hc
  ·rename_i f' hcal
   split at hc <;> simp at hc
   rename_i f1 a1 e1 e2
   obtain ⟨rfl,rfl⟩ := hc
   exact ⟨f',rfl,hcal,e1,e2⟩
  all_goals (repeat' (split at hc)) <;> first | (simp at hc; done) | contradiction
 all_goals (exfalso; unfold compOp at hc; rw [hop] at hc; simp only at hc; (repeat' (split at hc)) <;> first | (simp at hc; done) | contradiction)
theorem step_call {s : XStep} {rnd : Option Nat} {t : Tr V} {d : List XDef} {h : Heap} {f : Opd} {args : List Opd} {Q : V -> List XDef -> Heap -> Prop} (hw : wantedV t s.guard = some true) (hs : s.op = .call f args)
  (ha : ApplyWP P (rd t f) (vals (rd t) args) h fun v h' => Q v d h') : StepWP P s rnd t d h Q := by
 intro K w0 μ w b a k cs ops i rest o n hc ho hrnd R hn hd
 obtain ⟨h1,h2,h3,h4⟩ := compStep_some hc
 have hc1 : compOp P o = some (.call f args) := by
  cases hco : compOp P o with
  | none => rw [hco,hs] at h1; cases h1
  | some op => rw [hco,hs] at h1; rw [h1]
 obtain ⟨c,f',e1,e2,e3,e4⟩ := comp_call hc1
 have hops := op2_of (a := a) hn
 rw [e1] at hops
 have hf : VR μ (rd t f) (a.eval f') := hops f' (by simp [Op.operands,Call.operands,e2]) f e3
 have hargs : VRs μ (vals (rd t) args) (c.args.map a.eval).toList := by
  have := opds_VRs (μ := μ) (ρ := rd t) (ρ' := a.eval) e4 (fun x' hx' => hops x' (by simp [Op.operands,Call.operands]; exact .inr (by simpa using hx')))
  simpa using this
 obtain ⟨nx,fr,q1,q2,v,h',μ',w',x,q,r1,r2⟩ := ha K w0 μ w (a.eval f') (c.args.map a.eval) (fat b a (.inRegion ops (i :: rest) :: k)) cs R hf hargs
 have hex : (execOp a.eval o).run P w = .ok nx w := by
  unfold execOp
  rw [e1]
  simpa [resolve,e2] using q1
 refine ⟨v,d,h',μ',a.defers,x,w',q,r1,hd.mono r1.le,?_⟩
 have hfin := finish_fat b a ops i rest k x
 rw [ho] at hfin
 rw [show (Option.bind (some o) fun x => x.dst) = o.dst from rfl] at hfin
 rw [hfin] at r2
 exact .head (fat_op_enter ho (wanted_eq h2 hn hw) (.inr fun c' hcd => by rw [e1] at hcd; cases hcd) hex q2) r2
theorem load_run {K : Nat -> Prop} {w0 : World} {μ : Mu} {h : Heap} {w : World} (R : Rel P K w0 μ h w) {t : TypeId} {g : Bool} {n m : Nat} {v y : V} {a : Value} (hag : aggOf P t = some g) (hn : sizOf P t = some n) (hx : VR μ v a) (hm : m = bif g then n else 1)
  (hr : recvOf h v (some (g,m)) = some y) : ∃ ad x,a = .pointer (some ad) /\ (loadVar t ad).run P w = .ok x w /\ VR μ y x := by
 simp only [recvOf,oEv,rd] at hr
 cases hx <;> simp only at hr <;> try (cases hr; done)
 rename_i o1 g1 off l hml
 cases hc : rCs h o1 g1 off m with
 | none => rw [hc] at hr; cases hr
 | some vs =>
  obtain ⟨xs,h1,h2,h3,h4⟩ := R.read hc hml
  rw [hc] at hr
  cases g with
  | true =>
   simp only at hr
   cases hr
   refine ⟨_,.agg xs.toArray,rfl,?_,.agg h1⟩
   have := run_loadCells_read (P := P) h4
   rw [h3] at this
   simp only [cond_true] at hm
   subst hm
   simp [loadVar,run_isAgg hag,run_sizeOf hn,this]
  | false =>
   match vs,hr,h1 with
   | [v1],hr,h1 =>
    simp only at hr
    cases hr
    cases h1 with
    | @cons _ x _ _ hv hr =>
     cases hr
     refine ⟨_,x,rfl,?_,hv⟩
     have := h4 0 x rfl
     simp only [Nat.add_zero] at this
     simp [loadVar,run_isAgg hag,this]
   | [],hr,_ => simp at hr
   | _ :: _ :: _,hr,_ => simp at hr
omit [RoLim] in
theorem methodRow_fst {name : String} {t : Nat} {r : Nat × Nat × Option (Bool × Nat)} (hr : methodRow P name t = some r) : r.1 = t := by
 unfold methodRow at hr
 split at hr
 ·cases hr
 ·split at hr
  ·cases hr
  ·split at hr <;> try (cases hr; done)
   ·cases hr; rfl
   ·split at hr <;> cases hr; rfl
   ·cases hr; rfl
omit [RoLim] in
theorem rowOf_some {name : String} {ty f : Nat} {r : Option (Bool × Nat)} : ∀ {l : List Nat},rowOf ty (l.filterMap (methodRow P name)) = some (f,r) -> methodRow P name ty = some (ty,f,r)
 | [],h => by simp [rowOf] at h
 | t :: l,h => by
  rw [List.filterMap_cons] at h
  cases hm : methodRow P name t with
  | none => rw [hm] at h; exact rowOf_some h
  | some q =>
   rw [hm] at h
   obtain ⟨t',f',r'⟩ := q
   have := methodRow_fst hm
   simp only at this
   subst this
   simp only [rowOf] at h
   split at h
   ·rename_i hb
    have := Nat.eq_of_beq_eq_true hb
    subst this
    cases h
    exact hm
   ·exact rowOf_some h
theorem method_run {K : Nat -> Prop} {w0 : World} {μ : Mu} {h : Heap} {w : World} (R : Rel P K w0 μ h w) {name : String} {ty f k : Nat} {r : Option (Bool × Nat)} {v y : V} {v' : Value} (hm : methodRow P name ty = some (ty,f,r)) (hv : VR μ v v') (hy : recvOf h v r = some y) :
  ∃ y',VR μ y y' /\ (method (k + 1) ty v' name).run P w = .ok (f,y') w := by
 unfold methodRow at hm
 split at hm
 ·cases hm
 ·rename_i i hi
  split at hm
  ·cases hm
  ·rename_i m hfind
   split at hm <;> try (cases hm; done)
   ·rename_i f1 e hp hf hu
    cases hm
    simp only [recvOf,Option.some.injEq] at hy
    subst hy
    refine ⟨v',hv,?_⟩
    simp [method,run_typeInfo hi,hfind,hp,follow,hf,receiverAt,run_und hu,Place.get]
   ·rename_i f1 e hp hf hu
    split at hm <;> cases hm
    rename_i g n hag hn
    obtain ⟨ad,x,rfl,h2,h3⟩ := load_run R hag hn hv (by cases g <;> rfl) hy
    refine ⟨x,h3,?_⟩
    simp only [method,Sem.run_bind,run_typeInfo hi,Result.andThen_ok,hfind,hp,follow,Sem.run_pure,hf,receiverAt,run_und hu,Place.get]
    have hchk : ∀ s : String,Builtin.ssaWrapNilChk_ #[ty] ty #[Value.pointer (some ad),strVal "",strVal s] = pure (.pointer (some ad)) := fun _ => rfl
    cases m.path.isEmpty <;> simp [hchk,asAddr,h2]
   ·rename_i f1 e hne hp hf hu
    cases hm
    simp only [recvOf,Option.some.injEq] at hy
    subst hy
    refine ⟨v',hv,?_⟩
    cases e with
    | pointer e => exact (hne e rfl).elim
    | _ => simp [method,run_typeInfo hi,hfind,hp,follow,hf,receiverAt,run_und hu,Place.get]
omit [RoLim] in
theorem comp_invoke {o : Oper} {x : Opd} {rows : List (Nat × Nat × Option (Bool × Nat))} {args : List Opd} (hc : compOp P o = some (.invoke x rows args)) : ∃ c x' name,o.op = .call c /\ c.callee = .invoke x' name /\ opd x' = some x /\ opds c.args.toList = some args /\ rows = methodRows P name := by
 cases hop : o.op
 case call c =>
  unfold compOp at hc
  rw [hop] at hc
  simp only at hc
  refine ⟨c,?_⟩
  unfold compCall at hc
  split at hc
  ·split at hc <;> simp at hc
  ·rename_i x' name hcal
   split at hc <;> simp at hc
   rename_i x1 a1 e1 e2
   obtain ⟨rfl,rfl,rfl⟩ := hc
   exact ⟨x',name,rfl,hcal,e1,e2,rfl⟩
  all_goals (repeat' (split at hc)) <;> first | (simp at hc; done) | contradiction
 all_goals (exfalso; unfold compOp at hc; rw [hop] at hc; simp only at hc; (repeat' (split at hc)) <;> first | (simp at hc; done) | contradiction)
theorem step_invoke {s : XStep} {rnd : Option Nat} {t : Tr V} {d : List XDef} {h : Heap} {x : Opd} {rows : List (Nat × Nat × Option (Bool × Nat))} {args : List Opd} {Q : V -> List XDef -> Heap -> Prop} {ty f : Nat} {r : Option (Bool × Nat)} {v y : V} (hw : wantedV t s.guard = some true) (hs : s.op = .invoke x rows args)
  (hx : rd t x = .iface ty v) (hrow : rowOf ty rows = some (f,r)) (hy : recvOf h v r = some y) (ha : CallWP P false f (y :: vals (rd t) args) h fun v h' => Q v d h') : StepWP P s rnd t d h Q := by
 intro K w0 μ w b a k cs ops i rest o n hc ho hrnd R hn hd
 obtain ⟨h1,h2,h3,h4⟩ := compStep_some hc
 have hc1 : compOp P o = some (.invoke x rows args) := by
  cases hco : compOp P o with
  | none => rw [hco,hs] at h1; cases h1
  | some op => rw [hco,hs] at h1; rw [h1]
 obtain ⟨c,x',name,e1,e2,e3,e4,rfl⟩ := comp_invoke hc1
 have hops := op2_of (a := a) hn
 rw [e1] at hops
 have hxv : VR μ (rd t x) (a.eval x') := hops x' (by simp [Op.operands,Call.operands,e2]) x e3
 have hargs : VRs μ (vals (rd t) args) (c.args.map a.eval).toList := by
  have := opds_VRs (μ := μ) (ρ := rd t) (ρ' := a.eval) e4 (fun x' hx' => hops x' (by simp [Op.operands,Call.operands]; exact .inr (by simpa using hx')))
  simpa using this
 rw [hx] at hxv
 generalize hxe : a.eval x' = xv at hxv
 cases hxv with
 | @iface _ _ v' hv =>
  obtain ⟨y',hvy,hmeth⟩ := method_run (k := P.types.size + (Made.depth - 1)) R (rowOf_some hrow) hv hy
  obtain ⟨fn,f1,f2,f3⟩ := ha
  obtain ⟨v1,h',μ',w',fr,x1,q,r1,r2,r3,r4,r5,r6,r7⟩ := f3 K w0 μ w (y' :: (c.args.map a.eval).toList) (fat b a (.inRegion ops (i :: rest) :: k) :: cs) R (.cons hvy hargs)
  have hex : (execOp a.eval o).run P w = .ok (.enter f (y' :: (c.args.map a.eval).toList).toArray) w := by
   unfold execOp
   rw [e1]
   have hmeth' : (method (P.types.size + Made.depth) ty v' name).run P w = .ok (f,y') w := hmeth
   have harr : #[y'] ++ c.args.map a.eval = (y' :: (c.args.map a.eval).toList).toArray := by apply Array.ext'; simp
   have h0 : (#[Value.iface ty v'] ++ c.args.map a.eval)[0]? = some (Value.iface ty v') := by rw [Array.getElem?_append_left (by simp)]; rfl
   have hx1 : (#[Value.iface ty v'] ++ c.args.map a.eval).extract 1 (#[Value.iface ty v'] ++ c.args.map a.eval).size = c.args.map a.eval := by
    apply Array.ext'
    simp
    rw [List.take_of_length_le (by simp)]
   have hcm : (callMethod (.iface ty v') name (c.args.map a.eval)).run P w = .ok (.enter f (y' :: (c.args.map a.eval).toList).toArray) w := by
    simp only [callMethod,Sem.run_bind,run_program,Result.andThen_ok,hmeth',harr,run_callFunc f1 f2]
   simp only [resolve,e2,pure_bind,invoke,hxe,h0,hx1]
   exact hcm
  refine ⟨v1,d,h',μ',a.defers,x1,w',q,r1,hd.mono r1.le,?_⟩
  have hfin := finish_fat b a ops i rest k x1
  rw [ho] at hfin
  rw [show (Option.bind (some o) fun x => x.dst) = o.dst from rfl] at hfin
  have hlast := Steps.trans r2 (.one (fr_leaves f1 r3 r4 r5 r6 r7))
  rw [hfin] at hlast
  exact .head (fat_op_enter ho (wanted_eq h2 hn hw) (.inr fun c' hcd => by rw [e1] at hcd; cases hcd) hex (entered_enter _ _)) hlast
theorem step_defers {s : XStep} {t : Tr V} {d : List XDef} {h : Heap} {f : Opd} {args : List Opd} {g : Nat} {first caps : List V} {Q : V -> List XDef -> Heap -> Prop} (hw : wantedV t s.guard = some true) (hs : s.op = .defer f args)
  (hf : rd t f = .func g first caps) (q : Q .undef (.call g (first ++ (vals (rd t) args ++ caps)) :: d) h) : StepWP P s none t d h Q := by
 intro K w0 μ w b a k cs ops i rest o n hc ho hrnd R hn hd
 obtain ⟨h1,h2,h3,h4⟩ := compStep_some hc
 have hc1 : compOp P o = some (.defer f args) := by
  cases hco : compOp P o with
  | none => rw [hco,hs] at h1; cases h1
  | some op => rw [hco,hs] at h1; rw [h1]
 have hb : b.roundOf = none := by cases hb : b.roundOf with | none => rfl | some l => rw [hb] at hrnd; exact hrnd.elim
 have hcd : ∃ c f',o.op = .defer c /\ c.callee = .value f' /\ opd f' = some f /\ opds c.args.toList = some args := by
  cases hop : o.op
  case defer c =>
   unfold compOp at hc1
   rw [hop] at hc1
   simp only at hc1
   split at hc1 <;> try (simp at hc1; done)
   rename_i f' args' e1 e2
   split at hc1 <;> simp at hc1
   rename_i f1 e3
   obtain ⟨rfl,rfl⟩ := hc1
   exact ⟨c,f',rfl,e1,e3,e2⟩
  case call c =>
   exfalso
   unfold compOp at hc1
   rw [hop] at hc1
   simp only at hc1
   unfold compCall at hc1
   (repeat' (split at hc1)) <;> first | (simp at hc1; done) | contradiction
  all_goals (exfalso; unfold compOp at hc1; rw [hop] at hc1; simp only at hc1; (repeat' (split at hc1)) <;> first | (simp at hc1; done) | contradiction)
 obtain ⟨c,f',e1,e2,e3,e4⟩ := hcd
 have hops := op2_of (a := a) hn
 rw [e1] at hops
 have hfv : VR μ (rd t f) (a.eval f') := hops f' (by simp [Op.operands,Call.operands,e2]) f e3
 have hargs : VRs μ (vals (rd t) args) (c.args.map a.eval).toList := by
  have := opds_VRs (μ := μ) (ρ := rd t) (ρ' := a.eval) e4 (fun x' hx' => hops x' (by simp [Op.operands,Call.operands]; exact .inr (by simpa using hx')))
  simpa using this
 rw [hf] at hfv
 generalize hfx : a.eval f' = fx at hfv
 cases hfv with
 | @func _ _ _ a' b' ha hb' =>
  have hex : (execOp a.eval o).run P w = .ok (.defer { target := .fn (.func g) b'.toArray,args := a'.toArray ++ c.args.map a.eval }) w := by
   unfold execOp
   rw [e1]
   simp [resolve,e2,hfx,Deferred.ofValue]
  refine ⟨_,_,h,μ, { target := .fn (.func g) b'.toArray,args := a'.toArray ++ c.args.map a.eval } :: a.defers,undef,w,q,⟨Mu.le_refl μ,R,VR.undef μ⟩,?_,.one (fat_op_defer ho (wanted_eq h2 hn hw) hb hex)⟩
  refine .call ?_ hd
  have := ha.append (hargs.append hb')
  simpa using this
theorem step_next {s : XStep} {rnd : Option Nat} {t : Tr V} {d : List XDef} {h : Heap} {it : Opd} {oi mo ins : Nat} {seen : List Int} {cur : Option Int} {kd : IntKind} {es : List (Int × V)} {Q : V -> List XDef -> Heap -> Prop} (hw : wantedV t s.guard = some true) (hs : s.op = .next it)
  (hx : rd t it = .iter oi) (hgi : h.get oi = some (.miter (some mo) ins seen cur)) (hgm : h.get mo = some (.map kd es ins))
  (q0 : leftOf seen es = [] -> Q (.tup [.bool false]) d h) (q1 : ∀ k v,(k,v) ∈ leftOf seen es -> Q (.tup [.bool true,.int kd k,v]) d (h.put oi (.miter (some mo) ins (k :: seen) (some k)))) : StepWP P s rnd t d h Q := by
 refine step_res hw (fun f args e => by rw [hs] at e; cases e) (fun K w0 μ w o ρ' hc hρ hk R => ?_) (fun e => by rw [hs] at e; cases e)
 rw [hs] at hc
 obtain ⟨x',e1,e2⟩ := comp_next hc
 have hxr : VR μ (.iter oi) (ρ' x') := by
  have := hρ x' (by rw [e1]; simp [Op.operands]) it e2
  rwa [hx] at this
 rcases op_next R hxr hgi hgm e1 with ⟨r1,r2⟩ | ⟨k,v,r1,r2⟩
 ·exact ⟨_,_,q0 r1,r2⟩
 ·exact ⟨_,_,q1 k v r1,r2⟩
where
 comp_next {o : Oper} {it : Opd} (hc : compOp P o = some (.next it)) : ∃ x',o.op = .next x' false /\ opd x' = some it := by
  cases hop : o.op
  case next x b =>
   unfold compOp at hc
   rw [hop] at hc
   cases b <;> simp only at hc <;> try (simp at hc; done)
   split at hc <;> simp at hc
   rename_i it1 e1
   subst hc
   exact ⟨x,rfl,e1⟩
  case call c =>
   exfalso
   unfold compOp at hc
   rw [hop] at hc
   simp only at hc
   unfold compCall at hc
   (repeat' (split at hc)) <;> first | (simp at hc; done) | contradiction
  all_goals (exfalso; unfold compOp at hc; rw [hop] at hc; simp only at hc; (repeat' (split at hc)) <;> first | (simp at hc; done) | contradiction)
theorem step_next_nil {s : XStep} {rnd : Option Nat} {t : Tr V} {d : List XDef} {h : Heap} {it : Opd} {oi ins : Nat} {seen : List Int} {cur : Option Int} {Q : V -> List XDef -> Heap -> Prop} (hw : wantedV t s.guard = some true) (hs : s.op = .next it)
  (hx : rd t it = .iter oi) (hgi : h.get oi = some (.miter none ins seen cur)) (q0 : Q (.tup [.bool false]) d h) : StepWP P s rnd t d h Q := by
 refine step_res hw (fun f args e => by rw [hs] at e; cases e) (fun K w0 μ w o ρ' hc hρ hk R => ?_) (fun e => by rw [hs] at e; cases e)
 rw [hs] at hc
 obtain ⟨x',e1,e2⟩ := step_next.comp_next hc
 have hxr : VR μ (.iter oi) (ρ' x') := by
  have := hρ x' (by rw [e1]; simp [Op.operands]) it e2
  rwa [hx] at this
 exact ⟨_,_,q0,op_next_nil R hxr hgi e1⟩
end
end Go.Xr
namespace Go.Xr
open Go.RowKit
def Arr (P : Program) (m : Machine) (b : Frame) (k : List Item) (cs : List Frame) : XExit -> Act -> World -> Prop
 | .normal,a,w => Steps P m (lone (fat b a k) cs w)
 | .exit id,a,w => ∃ k0,exitTo id k0 = exitTo id k /\ Steps P m (lone (fat b a (.code (.exit id) :: k0)) cs w)
 | .ret,a,w => ∃ k0,Steps P m (lone (fat b a (.code .ret :: k0)) cs w)
structure Env [RoLim] (P : Program) (K : Nat -> Prop) (w0 : World) (μ μ' : Mu) (t : Tr V) (d : List XDef) (h : Heap) (n : Nat) (a : Act) (w : World) : Prop where
 le : μ.le μ'
 rel : Rel P K w0 μ' h w
 sr : SR μ' t a.tmps
 dr : DRs μ' d a.defers
 size : a.tmps.size = n
def CodeWP [RoLim] (P : Program) (c : XCode) (rnd : Option Nat) (t : Tr V) (d : List XDef) (h : Heap) (Q : XExit -> Tr V -> List XDef -> Heap -> Prop) : Prop :=
 ∀ (K : Nat -> Prop) (w0 : World) (μ : Mu) (w : World) (b : Frame) (a : Act) (k : List Item) (cs : List Frame) (n : Nat) (c' : Code),
  compCode P n c' = some c -> n <= a.tmps.size -> RndR μ rnd b.roundOf -> Rel P K w0 μ h w -> SR μ t a.tmps -> DRs μ d a.defers ->
  ∃ e t' d' h' μ' a' w',Q e t' d' h' /\ Env P K w0 μ μ' t' d' h' a.tmps.size a' w' /\ Arr P (lone (fat b a (.code c' :: k)) cs w) b k cs e a' w'
section
variable [RoLim] {P : Program} {rnd : Option Nat} {t : Tr V} {d : List XDef} {h : Heap} {Q : XExit -> Tr V -> List XDef -> Heap -> Prop}
omit [RoLim] in
theorem Arr.of_steps {m m1 : Machine} {b : Frame} {k : List Item} {cs : List Frame} {e : XExit} {a : Act} {w : World} (hs : Steps P m m1) (ha : Arr P m1 b k cs e a w) : Arr P m b k cs e a w := by
 cases e with
 | normal => exact hs.trans ha
 | exit id => obtain ⟨k0,h1,h2⟩ := ha; exact ⟨k0,h1,hs.trans h2⟩
 | ret => obtain ⟨k0,h2⟩ := ha; exact ⟨k0,hs.trans h2⟩
omit [RoLim] in
theorem Arr.pass {m : Machine} {b : Frame} {x : Item} {k : List Item} {cs : List Frame} {e : XExit} {a : Act} {w : World} (hx : ∀ id,exitTo id (x :: k) = exitTo id k) (he : e ≠ .normal) (ha : Arr P m b (x :: k) cs e a w) : Arr P m b k cs e a w := by
 cases e with
 | normal => exact absurd rfl he
 | exit id => obtain ⟨k0,h1,h2⟩ := ha; exact ⟨k0,h1.trans (hx id),h2⟩
 | ret => exact ha
theorem CodeWP.mono {c : XCode} {Q' : XExit -> Tr V -> List XDef -> Heap -> Prop} (hw : CodeWP P c rnd t d h Q) (hq : ∀ e t d h,Q e t d h -> Q' e t d h) : CodeWP P c rnd t d h Q' := by
 intro K w0 μ w b a k cs n c' hc hn hr R hs hd
 obtain ⟨e,t',d',h',μ',a',w',q,r⟩ := hw K w0 μ w b a k cs n c' hc hn hr R hs hd
 exact ⟨e,t',d',h',μ',a',w',hq _ _ _ _ q,r⟩
omit [RoLim] in
theorem opd_VR {μ : Mu} {a : Act} {x' : Operand} {x : Opd} (hs : SR μ t a.tmps) (hx : opd x' = some x) : VR μ (rd t x) (a.eval x') := by
 cases x' with
 | tmp i => simp only [opd,Option.some.injEq] at hx; subst hx; exact hs i
 | const c =>
  simp only [opd] at hx
  split at hx <;> simp at hx
  rename_i v hv
  subst hx
  exact const_VR hv
 | func f => simp only [opd,Option.some.injEq] at hx; subst hx; exact .func .nil .nil
 | global g => simp [opd] at hx
omit [RoLim] in
theorem SR.put {μ : Mu} {a : Act} {dst : Option Nat} {v : V} {x : Value} (hs : SR μ t a.tmps) (hv : VR μ v x) (hd : ∀ i,dst = some i -> i < a.tmps.size) : SR μ (putOpt t dst v) (a.put dst x).tmps := by
 cases dst with
 | none => exact hs
 | some i =>
  intro j
  show VR μ (sO (t.set i v) j) ((a.tmps.setIfInBounds i x).getD j undef)
  rw [sSe]
  by_cases e : j = i
  ·subst e
   have := hd j rfl
   simp [this]
   exact hv
  ·rw [if_neg e]
   have := hs j
   simp only [Array.getD_eq_getD_getElem?,Array.getElem?_setIfInBounds_ne (Ne.symm e)] at this ⊢
   exact this
omit [RoLim] in
theorem put_size {a : Act} {dst : Option Nat} {x : Value} : (a.put dst x).tmps.size = a.tmps.size := by cases dst <;> simp [Act.put]
omit [RoLim] in
theorem put_defers' {a : Act} {dst : Option Nat} {x : Value} : (a.put dst x).defers = a.defers := by cases dst <;> rfl
omit [RoLim] in
theorem compRegion_form {n : Nat} {ops : Array Oper} {draw : Bool} {c : XCode} (hc : compRegion P n ops draw = some c) : ∃ dr ls,c = .region dr ls := by
 unfold compRegion at hc
 split at hc
 ·cases hc
 ·split at hc
  ·injection hc with hc; exact ⟨_,_,hc.symm⟩
  ·simp only at hc
   split at hc
   ·injection hc with hc; exact ⟨_,_,hc.symm⟩
   ·split at hc
    ·injection hc with hc; exact ⟨_,_,hc.symm⟩
    ·injection hc with hc; exact ⟨_,_,hc.symm⟩
    ·cases hc
theorem code_skip (q : Q .normal t d h) : CodeWP P .skip rnd t d h Q := by
 intro K w0 μ w b a k cs n c' hc hn hr R hs hd
 cases c' <;> simp only [compCode] at hc
 case skip => exact ⟨.normal,t,d,h,μ,a,w,q,⟨Mu.le_refl μ,R,hs,hd,rfl⟩,.one fat_skip⟩
 all_goals (exfalso; (repeat' (split at hc)) <;> first | (simp at hc; done) | (obtain ⟨_,ls,hls⟩ := compRegion_form hc; cases hls))
theorem code_label (q : Q .normal t d h) : CodeWP P .label rnd t d h Q := by
 intro K w0 μ w b a k cs n c' hc hn hr R hs hd
 cases c' <;> simp only [compCode] at hc
 case label l => exact ⟨.normal,t,d,h,μ,a,w,q,⟨Mu.le_refl μ,R,hs,hd,rfl⟩,.one fat_label⟩
 all_goals (exfalso; (repeat' (split at hc)) <;> first | (simp at hc; done) | (obtain ⟨_,ls,hls⟩ := compRegion_form hc; cases hls))
theorem code_scope {x : XCode} (hw : CodeWP P x rnd t d h Q) : CodeWP P (.scope x) rnd t d h Q := by
 intro K w0 μ w b a k cs n c' hc hn hr R hs hd
 have hx : ∃ x',c' = .scope x' /\ compCode P n x' = some x := by
  cases c' <;> simp only [compCode] at hc
  case scope x' =>
   split at hc <;> simp at hc
   rename_i x1 e1
   subst hc
   exact ⟨_,rfl,e1⟩
  all_goals (exfalso; (repeat' (split at hc)) <;> first | (simp at hc; done) | (obtain ⟨_,ls,hls⟩ := compRegion_form hc; cases hls))
 obtain ⟨x',rfl,e1⟩ := hx
 obtain ⟨e,t1,d1,h1,μ1,a1,w1,q,r1,r2⟩ := hw K w0 μ w b a (.inScope x' :: k) cs n x' e1 hn hr R hs hd
 refine ⟨e,t1,d1,h1,μ1,a1,w1,q,r1,?_⟩
 cases e with
 | normal => exact .head fat_scope (Steps.trans r2 (.one fat_inScope))
 | exit id => obtain ⟨k0,s1,s2⟩ := r2; exact ⟨k0,s1,.head fat_scope s2⟩
 | ret => obtain ⟨k0,s2⟩ := r2; exact ⟨k0,.head fat_scope s2⟩
theorem code_exit {id : Nat} (q : Q (.exit id) t d h) : CodeWP P (.exit id) rnd t d h Q := by
 intro K w0 μ w b a k cs n c' hc hn hr R hs hd
 cases c' <;> simp only [compCode] at hc
 case exit id' =>
  simp only [Option.some.injEq,XCode.exit.injEq] at hc
  subst hc
  exact ⟨.exit id',t,d,h,μ,a,w,q,⟨Mu.le_refl μ,R,hs,hd,rfl⟩,⟨k,rfl,Steps.refl P _⟩⟩
 all_goals (exfalso; (repeat' (split at hc)) <;> first | (simp at hc; done) | (obtain ⟨_,ls,hls⟩ := compRegion_form hc; cases hls))
theorem code_ret (q : Q .ret t d h) : CodeWP P .ret rnd t d h Q := by
 intro K w0 μ w b a k cs n c' hc hn hr R hs hd
 cases c' <;> simp only [compCode] at hc
 case ret => exact ⟨.ret,t,d,h,μ,a,w,q,⟨Mu.le_refl μ,R,hs,hd,rfl⟩,⟨k,Steps.refl P _⟩⟩
 all_goals (exfalso; (repeat' (split at hc)) <;> first | (simp at hc; done) | (obtain ⟨_,ls,hls⟩ := compRegion_form hc; cases hls))
theorem code_seq {x y : XCode} (hw : CodeWP P x rnd t d h fun e t d h => match e with | .normal => CodeWP P y rnd t d h Q | e => Q e t d h) : CodeWP P (.seq x y) rnd t d h Q := by
 intro K w0 μ w b a k cs n c' hc hn hr R hs hd
 have hx : ∃ x' y',c' = .seq x' y' /\ compCode P n x' = some x /\ compCode P n y' = some y := by
  cases c' <;> simp only [compCode] at hc
  case seq x' y' =>
   split at hc <;> simp at hc
   rename_i x1 y1 e1 e2
   obtain ⟨rfl,rfl⟩ := hc
   exact ⟨_,_,rfl,e1,e2⟩
  all_goals (exfalso; (repeat' (split at hc)) <;> first | (simp at hc; done) | (obtain ⟨_,ls,hls⟩ := compRegion_form hc; cases hls))
 obtain ⟨x',y',rfl,e1,e2⟩ := hx
 obtain ⟨e,t1,d1,h1,μ1,a1,w1,q,r1,r2⟩ := hw K w0 μ w b a (.code y' :: k) cs n x' e1 hn hr R hs hd
 have hfail : e ≠ .normal -> Q e t1 d1 h1 -> ∃ e t' d' h' μ' a' w',Q e t' d' h' /\ Env P K w0 μ μ' t' d' h' a.tmps.size a' w' /\ Arr P (lone (fat b a (.code (.seq x' y') :: k)) cs w) b k cs e a' w' :=
  fun he q => ⟨e,t1,d1,h1,μ1,a1,w1,q,r1,.of_steps (.one fat_seq) (r2.pass (fun _ => rfl) he)⟩
 cases e with
 | normal =>
  obtain ⟨e2',t2,d2,h2,μ2,a2,w2,q2,s1,s2⟩ := q K w0 μ1 w1 b a1 k cs n y' e2 (by rw [r1.size]; exact hn) (hr.mono r1.le) r1.rel r1.sr r1.dr
  exact ⟨e2',t2,d2,h2,μ2,a2,w2,q2,⟨Mu.le_trans r1.le s1.le,s1.rel,s1.sr,s1.dr,s1.size.trans r1.size⟩,.of_steps (.head fat_seq r2) s2⟩
 | exit id => exact hfail (by simp) q
 | ret => exact hfail (by simp) q
theorem code_cond {c : Opd} {x y : XCode} {v : Bool} (hc : rd t c = .bool v) (hw : CodeWP P (if v then x else y) rnd t d h Q) : CodeWP P (.cond c x y) rnd t d h Q := by
 intro K w0 μ w b a k cs n c' hcc hn hr R hs hd
 have hx : ∃ o' x' y',c' = .cond o' x' y' /\ opd o' = some c /\ compCode P n x' = some x /\ compCode P n y' = some y := by
  cases c' <;> simp only [compCode] at hcc
  case cond o' x' y' =>
   split at hcc <;> simp at hcc
   rename_i c1 x1 y1 e1 e2 e3
   obtain ⟨rfl,rfl,rfl⟩ := hcc
   exact ⟨_,_,_,rfl,e1,e2,e3⟩
  all_goals (exfalso; (repeat' (split at hcc)) <;> first | (simp at hcc; done) | (obtain ⟨_,ls,hls⟩ := compRegion_form hcc; cases hls))
 obtain ⟨o',x',y',rfl,e1,e2,e3⟩ := hx
 have hv := opd_VR hs e1
 rw [hc] at hv
 have hv' : a.eval o' = .bool v := by generalize a.eval o' = z at hv; cases hv; rfl
 obtain ⟨e,t1,d1,h1,μ1,a1,w1,q,r1,r2⟩ := hw K w0 μ w b a k cs n (if v then x' else y') (by cases v <;> simp [e2,e3]) hn hr R hs hd
 exact ⟨e,t1,d1,h1,μ1,a1,w1,q,r1,.of_steps (.one (fat_cond hv')) r2⟩
theorem code_block {id : Nat} {x : XCode} (hw : CodeWP P x rnd t d h fun e t d h => match e with | .exit i => (i = id -> Q .normal t d h) /\ (i ≠ id -> Q (.exit i) t d h) | e => Q e t d h) : CodeWP P (.block id x) rnd t d h Q := by
 intro K w0 μ w b a k cs n c' hc hn hr R hs hd
 have hx : ∃ x',c' = .block id x' /\ compCode P n x' = some x := by
  cases c' <;> simp only [compCode] at hc
  case block id' x' =>
   split at hc <;> simp at hc
   rename_i x1 e1
   obtain ⟨rfl,rfl⟩ := hc
   exact ⟨_,rfl,e1⟩
  all_goals (exfalso; (repeat' (split at hc)) <;> first | (simp at hc; done) | (obtain ⟨_,ls,hls⟩ := compRegion_form hc; cases hls))
 obtain ⟨x',rfl,e1⟩ := hx
 obtain ⟨e,t1,d1,h1,μ1,a1,w1,q,r1,r2⟩ := hw K w0 μ w b a (.inBlock id :: k) cs n x' e1 hn hr R hs hd
 cases e with
 | normal => exact ⟨.normal,t1,d1,h1,μ1,a1,w1,q,r1,.head fat_block (Steps.trans r2 (.one fat_inBlock))⟩
 | exit i =>
  obtain ⟨k0,s1,s2⟩ := r2
  by_cases hi : i = id
  ·subst hi
   refine ⟨.normal,t1,d1,h1,μ1,a1,w1,q.1 rfl,r1,.head fat_block (Steps.trans s2 (.one (fat_exit (k' := k) ?_)))⟩
   rw [s1]
   simp [exitTo]
  ·refine ⟨.exit i,t1,d1,h1,μ1,a1,w1,q.2 hi,r1,k0,?_,.head fat_block s2⟩
   rw [s1]
   have : (id == i) = false := by simp; exact fun e => hi e.symm
   simp [exitTo,this]
 | ret => exact ⟨.ret,t1,d1,h1,μ1,a1,w1,q,r1,.of_steps (.one fat_block) r2⟩
omit [RoLim] in
theorem steps_tail {m m1 m2 : Machine} (h1 : step P m = .next m1) (h2 : Steps P m m2) (hne : m ≠ m2) : Steps P m1 m2 := by
 obtain ⟨n,hn⟩ := h2
 cases n with
 | zero => simp [runN] at hn; exact absurd hn hne
 | succ n => simp only [runN,h1] at hn; exact ⟨n,hn⟩
omit [RoLim] in
theorem lone_todo {f g : Frame} {cs cs' : List Frame} {w w' : World} (h : lone f cs w = lone g cs' w') : f = g := by
 have := congrArg (fun m => m.gs) h
 simp [lone] at this
 exact this.1
omit [RoLim] in
theorem arr_tail {x : Item} {m1 : Machine} {b : Frame} {a : Act} {k : List Item} {cs : List Frame} {w : World} {e : XExit} {a' : Act} {w' : World} (hx1 : ∀ id,x ≠ .code (.exit id)) (hx2 : x ≠ .code .ret)
  (h1 : step P (lone (fat b a (x :: k)) cs w) = .next m1) (h2 : Arr P (lone (fat b a (x :: k)) cs w) b k cs e a' w') : Arr P m1 b k cs e a' w' := by
 cases e with
 | normal =>
  refine steps_tail h1 h2 fun he => ?_
  have := congrArg Frame.todo (lone_todo he)
  simp [fat] at this
 | exit id =>
  obtain ⟨k0,q1,q2⟩ := h2
  refine ⟨k0,q1,steps_tail h1 q2 fun he => ?_⟩
  have := congrArg Frame.todo (lone_todo he)
  simp only [fat,List.cons.injEq] at this
  exact hx1 id this.1
 | ret =>
  obtain ⟨k0,q2⟩ := h2
  refine ⟨k0,steps_tail h1 q2 fun he => ?_⟩
  have := congrArg Frame.todo (lone_todo he)
  simp only [fat,List.cons.injEq] at this
  exact hx2 this.1
omit [RoLim] in
theorem comp_loop {n : Nat} {c' : Code} {x : XCode} (hc : compCode P n c' = some (.loop x)) : ∃ x',c' = .loop x' /\ compCode P n x' = some x := by
 cases c' <;> simp only [compCode] at hc
 case loop x' =>
  split at hc <;> simp at hc
  rename_i x1 e1
  subst hc
  exact ⟨_,rfl,e1⟩
 all_goals (exfalso; (repeat' (split at hc)) <;> first | (simp at hc; done) | (obtain ⟨_,ls,hls⟩ := compRegion_form hc; cases hls))
theorem code_loop {x : XCode} (hw : CodeWP P x rnd t d h fun e t d h => match e with | .normal => CodeWP P (.loop x) rnd t d h Q | e => Q e t d h) : CodeWP P (.loop x) rnd t d h Q := by
 intro K w0 μ w b a k cs n c' hc hn hr R hs hd
 obtain ⟨x',rfl,e1⟩ := comp_loop hc
 obtain ⟨e,t1,d1,h1,μ1,a1,w1,q,r1,r2⟩ := hw K w0 μ w b a (.inLoop x' :: k) cs n x' e1 hn hr R hs hd
 have hfail : e ≠ .normal -> Q e t1 d1 h1 -> ∃ e t' d' h' μ' a' w',Q e t' d' h' /\ Env P K w0 μ μ' t' d' h' a.tmps.size a' w' /\ Arr P (lone (fat b a (.code (.loop x') :: k)) cs w) b k cs e a' w' :=
  fun he q => ⟨e,t1,d1,h1,μ1,a1,w1,q,r1,.of_steps (.one fat_loop) (r2.pass (fun _ => rfl) he)⟩
 cases e with
 | normal =>
  obtain ⟨e2',t2,d2,h2,μ2,a2,w2,q2,s1,s2⟩ := q K w0 μ1 w1 b a1 k cs n (.loop x') hc (by rw [r1.size]; exact hn) (hr.mono r1.le) r1.rel r1.sr r1.dr
  refine ⟨e2',t2,d2,h2,μ2,a2,w2,q2,⟨Mu.le_trans r1.le s1.le,s1.rel,s1.sr,s1.dr,s1.size.trans r1.size⟩,.of_steps (.head fat_loop r2) ?_⟩
  have s3 := arr_tail (fun id => by simp) (by simp) fat_loop s2
  exact .of_steps (.one fat_inLoop) s3
 | exit id => exact hfail (by simp) q
 | ret => exact hfail (by simp) q
def StepsWP (P : Program) (rnd : Option Nat) : List XStep -> Tr V -> List XDef -> Heap -> (Tr V -> List XDef -> Heap -> Prop) -> Prop
 | [],t,d,h,Q => Q t d h
 | s :: ss,t,d,h,Q => StepWP P s rnd t d h fun v d h => StepsWP P rnd ss (putOpt t s.dst v) d h Q
theorem steps_run {n : Nat} {ops : Array Oper} : ∀ (os : List Oper) (ss : List XStep) (j : Nat),compSteps P n ops os = some ss -> (∀ i o,os[i]? = some o -> ops[j + i]? = some o) ->
  ∀ {t : Tr V} {d : List XDef} {h : Heap} {Q : Tr V -> List XDef -> Heap -> Prop},StepsWP P rnd ss t d h Q ->
  ∀ (K : Nat -> Prop) (w0 : World) (μ : Mu) (w : World) (b : Frame) (a : Act) (k : List Item) (cs : List Frame),n <= a.tmps.size -> RndR μ rnd b.roundOf -> Rel P K w0 μ h w -> SR μ t a.tmps -> DRs μ d a.defers ->
  ∃ t' d' h' μ' a' w',Q t' d' h' /\ Env P K w0 μ μ' t' d' h' a.tmps.size a' w' /\ Steps P (lone (fat b a (.inRegion ops (List.range' j os.length) :: k)) cs w) (lone (fat b a' k) cs w') := by
 intro os
 induction os with
 | nil =>
  intro ss j hc hi t d h Q hw K w0 μ w b a k cs hn hr R hs hd
  simp [compSteps] at hc
  subst hc
  exact ⟨t,d,h,μ,a,w,hw,⟨Mu.le_refl μ,R,hs,hd,rfl⟩,.one fat_region_end⟩
 | cons o os ih =>
  intro ss j hc hi t d h Q hw K w0 μ w b a k cs hn hr R hs hd
  simp only [compSteps] at hc
  split at hc <;> simp at hc
  rename_i s ss' e1 e2
  subst hc
  have hoj : ops[j]? = some o := by simpa using hi 0 o rfl
  obtain ⟨q1,q2,q3,q4⟩ := compStep_some e1
  obtain ⟨v,d1,h1,μ1,ds,x,w1,q,r1,r2,r3⟩ := hw K w0 μ w b a k cs ops j (List.range' (j + 1) os.length) o n e1 hoj hr R (fun y _ => hs y) hd
  have hsr : SR μ1 (putOpt t s.dst v) ((({ a with defers := ds } : Act).put o.dst x).tmps) := by
   rw [q3]
   exact SR.put (a := { a with defers := ds }) (hs.mono r1.le) r1.val fun i hi => Nat.lt_of_lt_of_le (q4 i hi) hn
  obtain ⟨t2,d2,h2,μ2,a2,w2,p1,p2,p3⟩ := ih ss' (j + 1) e2 (fun i o' ho' => by have := hi (i + 1) o' (by simpa using ho'); rwa [Nat.add_assoc,Nat.add_comm 1 i]) q K w0 μ1 w1 b _ k cs (by rw [put_size]; exact hn) (hr.mono r1.le) r1.rel hsr
   (by rw [put_defers']; exact r2)
  exact ⟨t2,d2,h2,μ2,a2,w2,p1,⟨Mu.le_trans r1.le p2.le,p2.rel,p2.sr,p2.dr,by rw [p2.size,put_size]⟩,Steps.trans r3 p3⟩
end
end Go.Xr
namespace Go.Xr
open Go.RowKit
mutual
theorem V.same_eq : ∀ (a b : V),V.same a b = true -> a = b
 | .int k n,b,h => by
  cases b <;> simp [V.same] at h
  rw [kindEq_eq h.1,h.2]
 | .bool a,b,h => by cases b <;> simp [V.same] at h; rw [h]
 | .str a,b,h => by cases b <;> simp [V.same] at h; rw [h]
 | .nilp,b,h => by cases b <;> simp [V.same] at h; rfl
 | .ptr o g off,b,h => by
  cases b <;> simp [V.same] at h
  rw [h.1.1,h.1.2,h.2]
 | .nils,b,h => by cases b <;> simp [V.same] at h; rfl
 | .slice o g off len c,b,h => by
  cases b <;> simp [V.same] at h
  obtain ⟨⟨⟨⟨h1,h2⟩,h3⟩,h4⟩,h5⟩ := h
  rw [h1,h2,h3,h4,h5]
 | .nilm,b,h => by cases b <;> simp [V.same] at h; rfl
 | .map o,b,h => by cases b <;> simp [V.same] at h; rw [h]
 | .nilf,b,h => by cases b <;> simp [V.same] at h; rfl
 | .func f x y,b,h => by
  cases b <;> simp [V.same] at h
  rw [h.1.1,V.sames_eq _ _ h.1.2,V.sames_eq _ _ h.2]
 | .yield o,b,h => by cases b <;> simp [V.same] at h; rw [h]
 | .nili,b,h => by cases b <;> simp [V.same] at h; rfl
 | .iface t v,b,h => by
  cases b <;> simp [V.same] at h
  rw [h.1,V.same_eq _ _ h.2]
 | .iter o,b,h => by cases b <;> simp [V.same] at h; rw [h]
 | .agg x,b,h => by cases b <;> simp [V.same] at h; rw [V.sames_eq _ _ h]
 | .tup x,b,h => by cases b <;> simp [V.same] at h; rw [V.sames_eq _ _ h]
 | .any,b,h => by cases b <;> simp [V.same] at h; rfl
 | .hole o,b,h => by cases b <;> simp [V.same] at h; rw [h]
 | .stamp o,b,h => by cases b <;> simp [V.same] at h; rw [h]
theorem V.sames_eq : ∀ (a b : List V),V.sames a b = true -> a = b
 | [],b,h => by cases b <;> simp [V.sames] at h; rfl
 | v :: a,b,h => by
  cases b <;> simp [V.sames] at h
  rw [V.same_eq _ _ h.1,V.sames_eq _ _ h.2]
end
theorem sameO_eq : ∀ {a b : Option V},sameO a b = true -> a = b
 | none,none,_ => rfl
 | some a,some b,h => by rw [V.same_eq a b h]
 | none,some _,h => by cases h
 | some _,none,h => by cases h
theorem sameT_eq : ∀ {a b : Tr V},sameT a b = true -> a = b
 | .lf,.lf,_ => rfl
 | .lf,.nd ..,h => by cases h
 | .nd ..,.lf,h => by cases h
 | .nd l v r,.nd l' v' r',h => by
  simp only [sameT,Bool.and_eq_true] at h
  rw [sameO_eq h.1.1,sameT_eq h.1.2,sameT_eq h.2]
theorem sameE_eq : ∀ {a b : List (Int × V)},sameE a b = true -> a = b
 | [],[],_ => rfl
 | [],_ :: _,h => by cases h
 | _ :: _,[],h => by cases h
 | (k,v) :: l,(k',v') :: l',h => by
  simp only [sameE,Bool.and_eq_true,decide_eq_true_eq] at h
  rw [h.1.1,V.same_eq _ _ h.1.2,sameE_eq h.2]
theorem sameX_eq {a b : XObj} (h : sameX a b = true) : a = b := by
 cases a <;> cases b <;> simp only [sameX,Bool.and_eq_true,decide_eq_true_eq,beq_iff_eq,Bool.false_eq_true] at h
 ·rename_i c c'
  obtain ⟨⟨⟨⟨⟨h1,h2⟩,h3⟩,h4⟩,h5⟩,h6⟩ := h
  cases c; cases c'
  simp only at h1 h2 h3 h4 h5 h6
  rw [V.sames_eq _ _ h1,Nat.eq_of_beq_eq_true h2,h3,h4,Nat.eq_of_beq_eq_true h5,h6]
 ·rw [kindEq_eq h.1.1,sameE_eq h.1.2,Nat.eq_of_beq_eq_true h.2]
 ·obtain ⟨⟨⟨h1,h2⟩,h3⟩,h4⟩ := h
  rw [h1,Nat.eq_of_beq_eq_true h2,h3,h4]
 ·rw [h]
 ·rw [h]
theorem sameXO_eq : ∀ {a b : Option XObj},sameXO a b = true -> a = b
 | none,none,_ => rfl
 | some a,some b,h => by rw [sameX_eq (a := a) (b := b) h]
 | none,some _,h => by cases h
 | some _,none,h => by cases h
theorem sameTX_eq : ∀ {a b : Tr XObj},sameTX a b = true -> a = b
 | .lf,.lf,_ => rfl
 | .lf,.nd ..,h => by cases h
 | .nd ..,.lf,h => by cases h
 | .nd l v r,.nd l' v' r',h => by
  simp only [sameTX,Bool.and_eq_true] at h
  rw [sameXO_eq h.1.1,sameTX_eq h.1.2,sameTX_eq h.2]
theorem sameH_eq {a b : Heap} (h : sameH a b = true) : a = b := by
 simp only [sameH,Bool.and_eq_true] at h
 cases a; cases b
 simp only at h
 rw [Nat.eq_of_beq_eq_true h.1,sameTX_eq h.2]
theorem sameD_eq : ∀ {a b : List XDef},sameD a b = true -> a = b
 | [],[],_ => rfl
 | [],.call .. :: _,h => by cases h
 | [],.collected .. :: _,h => by cases h
 | .call .. :: _,[],h => by cases h
 | .collected .. :: _,[],h => by cases h
 | .call .. :: _,.collected .. :: _,h => by cases h
 | .collected .. :: _,.call .. :: _,h => by cases h
 | .call f a :: l,.call f' a' :: l',h => by
  simp only [sameD,Bool.and_eq_true] at h
  rw [Nat.eq_of_beq_eq_true h.1.1,V.sames_eq _ _ h.1.2,sameD_eq h.2]
 | .collected o :: l,.collected o' :: l',h => by
  simp only [sameD,Bool.and_eq_true] at h
  rw [Nat.eq_of_beq_eq_true h.1,sameD_eq h.2]
theorem oneEnd_all : ∀ {l : List (Option (Tr V × List XDef × Heap))} {r : Tr V × List XDef × Heap},oneEnd l = some r -> ∀ x ∈ l,x = some r
 | [],r,h => by cases h
 | [x],r,h => fun y hy => by rw [List.mem_singleton.1 hy]; exact h
 | none :: y :: l,r,h => by cases h
 | some q :: y :: l,r,h => by
  simp only [oneEnd] at h
  cases e : oneEnd (y :: l) with
  | none => rw [e] at h; cases h
  | some r' =>
   rw [e] at h
   simp only at h
   cases e2 : (sameT q.1 r'.1 && sameD q.2.1 r'.2.1 && sameH q.2.2 r'.2.2) with
   | false => rw [e2] at h; cases h
   | true =>
    rw [e2] at h
    simp only [Bool.and_eq_true] at e2
    cases h
    have := oneEnd_all e
    intro z hz
    rcases List.mem_cons.1 hz with rfl | hz
    ·obtain ⟨q1,q2,q3⟩ := q
     obtain ⟨r1,r2,r3⟩ := r
     simp only at e2
     rw [sameT_eq e2.1.1,sameD_eq e2.1.2,sameH_eq e2.2]
    ·exact this z hz
section
variable [RoLim] {P : Program} {n : Nat} {ops : Array Oper}
structure Of (P : Program) (n : Nat) (ops : Array Oper) (I : Info) (o : Oper) : Prop where
 at_ : ops[I.n]? = some o
 comp : compStep P n ops o = some I.step
 sort : I.sort = I.step.op.sort
 names : I.names = names ops o
 dst : I.dst = o.dst
omit [RoLim] in
theorem infos_spec : ∀ {os : List Oper} {ss : List XStep} (j : Nat),compSteps P n ops os = some ss -> (∀ i o,os[i]? = some o -> ops[j + i]? = some o) ->
  (∀ I ∈ infos ops j os ss,j <= I.n /\ ∃ o,Of P n ops I o) /\ (infos ops j os ss).Pairwise (fun x y => x.n ≠ y.n) /\ (∀ i,j <= i -> i < j + os.length -> ∃ I ∈ infos ops j os ss,I.n = i) /\ (infos ops j os ss).length = os.length
 | [],ss,j,h,_ => by
  simp [compSteps] at h
  subst h
  refine ⟨by simp [infos],by simp [infos],fun i h1 h2 => ?_,by simp [infos]⟩
  simp at h2
  omega
 | o :: os,ss,j,h,hi => by
  simp only [compSteps] at h
  split at h <;> simp at h
  rename_i s ss' h1 h2
  subst h
  have ho : ops[j]? = some o := by simpa using hi 0 o rfl
  obtain ⟨a1,a2,a3,a4⟩ := infos_spec (j + 1) h2 (fun i o' ho' => by have := hi (i + 1) o' (by simpa using ho'); rwa [Nat.add_assoc,Nat.add_comm 1 i])
  refine ⟨fun I hI => ?_,?_,fun i hji hlt => ?_,by simp [infos,a4]⟩
  ·simp only [infos,List.mem_cons] at hI
   rcases hI with rfl | hI
   ·exact ⟨Nat.le_refl _,o,ho,h1,rfl,rfl,rfl⟩
   ·exact ⟨by have := (a1 I hI).1; omega,(a1 I hI).2⟩
  ·simp only [infos,List.pairwise_cons]
   exact ⟨fun I hI => by have := (a1 I hI).1; simp; omega,a2⟩
  ·by_cases e : i = j
   ·exact ⟨_,by simp only [infos]; exact List.mem_cons_self ..,e.symm⟩
   ·obtain ⟨I,hI,e2⟩ := a3 i (by omega) (by simp only [List.length_cons] at hlt; omega)
    exact ⟨I,by simp only [infos]; exact List.mem_cons_of_mem _ hI,e2⟩
omit [RoLim] in
theorem bits_fold (g : Nat -> Nat) (q : Edge -> Bool) (i : Nat) : ∀ (es : List Edge) (s : Nat),(es.foldl (fun s e => if q e then s ||| 2 ^ e.on ||| g e.on else s) s).testBit i = true ->
  s.testBit i = true \/ ∃ e ∈ es,q e = true /\ (i = e.on \/ (g e.on).testBit i = true)
 | [],s,h => .inl h
 | e :: es,s,h => by
  rcases bits_fold g q i es _ h with h | ⟨e',h1,h2⟩
  ·by_cases hq : q e = true
   ·simp only [if_pos hq] at h
    simp only [Nat.testBit_or,Bool.or_eq_true,Nat.testBit_two_pow,decide_eq_true_eq] at h
    rcases h with (h | h) | h
    ·exact .inl h
    ·exact .inr ⟨e,List.mem_cons_self ..,hq,.inl h.symm⟩
    ·exact .inr ⟨e,List.mem_cons_self ..,hq,.inr h⟩
   ·simp only [if_neg hq] at h
    exact .inl h
  ·exact .inr ⟨e',List.mem_cons_of_mem _ h1,h2⟩
omit [RoLim] in
theorem bits_fold_back (g : Nat -> Nat) (q : Edge -> Bool) (e : Edge) (hq : q e = true) : ∀ (es : List Edge) (s : Nat),(e ∈ es \/ s.testBit e.on = true) -> (es.foldl (fun s e => if q e then s ||| 2 ^ e.on ||| g e.on else s) s).testBit e.on = true
 | [],s,h => by rcases h with h | h; cases h; exact h
 | e' :: es,s,h => by
  refine bits_fold_back g q e hq es _ ?_
  rcases h with h | h
  ·rcases List.mem_cons.1 h with rfl | h
   ·right; simp only [if_pos hq]; simp [Nat.testBit_or]
   ·exact .inl h
  ·right
   by_cases hq' : q e' = true
   ·simp only [if_pos hq']; simp [Nat.testBit_or,h]
   ·simp only [if_neg hq']; exact h
def beforeF (acc : Array Nat) (o : Oper) : Nat := o.after.foldl (fun s e => if Region.binds .any e then s ||| 2 ^ e.on ||| acc.getD e.on 0 else s) 0
omit [RoLim] in
theorem before_get : ∀ (os : List Oper) (acc : Array Nat) (j : Nat),
  (∀ m,m < acc.size -> (os.foldl (fun acc o => acc.push (beforeF acc o)) acc)[m]? = acc[m]?) /\
  (∀ o,os[j]? = some o -> ∃ acc' : Array Nat,(os.foldl (fun acc o => acc.push (beforeF acc o)) acc)[acc.size + j]? = some (beforeF acc' o) /\
   ∀ m,acc'.getD m 0 = 0 \/ acc'.getD m 0 = (os.foldl (fun acc o => acc.push (beforeF acc o)) acc).getD m 0)
 | [],acc,j => ⟨fun m _ => rfl,fun o h => by simp at h⟩
 | o :: os,acc,j => by
  have ih0 := before_get os (acc.push (beforeF acc o))
  refine ⟨fun m hm => ?_,fun o' ho' => ?_⟩
  ·have := (ih0 0).1 m (by simp; omega)
   simp only [List.foldl_cons]
   rw [this,Array.getElem?_push]
   rw [if_neg (by omega)]
  ·cases j with
   | zero =>
    simp at ho'
    subst ho'
    refine ⟨acc,?_,fun m => ?_⟩
    ·have := (ih0 0).1 acc.size (by simp)
     simp only [List.foldl_cons,Nat.add_zero]
     rw [this]
     simp
    ·by_cases hm : m < acc.size
     ·right
      have := (ih0 0).1 m (by simp; omega)
      simp only [List.foldl_cons,Array.getD_eq_getD_getElem?]
      rw [this,Array.getElem?_push,if_neg (by omega)]
     ·left
      simp [Array.getElem?_eq_none (Nat.le_of_not_lt hm)]
   | succ j =>
    obtain ⟨acc',h1,h2⟩ := (ih0 j).2 o' (by simpa using ho')
    refine ⟨acc',?_,h2⟩
    simp only [List.foldl_cons]
    rw [<- h1]
    congr 1
    simp
    omega
omit [RoLim] in
theorem before_spec {i j : Nat} {o : Oper} (ho : ops[j]? = some o) (h : ahO (Region.before ops).toList i j = true) :
  ∃ e ∈ o.after,Region.binds .any e = true /\ (i = e.on \/ ahO (Region.before ops).toList i e.on = true) := by
 have hb : Region.before ops = ops.toList.foldl (fun acc o => acc.push (beforeF acc o)) #[] := by
  unfold Region.before beforeF
  rw [<- Array.foldl_toList]
 obtain ⟨acc',h1,h2⟩ := (before_get ops.toList #[] j).2 o (by simpa using ho)
 rw [<- hb] at h1 h2
 have h3 : (Region.before ops).toList.getD j 0 = beforeF acc' o := by
  have h1' : (Region.before ops)[j]? = some (beforeF acc' o) := by simpa using h1
  simp [List.getD_eq_getElem?_getD,h1']
 unfold ahO at h
 rw [h3] at h
 unfold beforeF at h
 rw [<- Array.foldl_toList] at h
 rcases bits_fold (fun m => acc'.getD m 0) (Region.binds .any) i o.after.toList 0 h with h | ⟨e,he,hq,h4⟩
 ·simp at h
 ·refine ⟨e,by simpa using he,hq,h4.imp id fun h4 => ?_⟩
  unfold ahO
  have : (Region.before ops).toList.getD e.on 0 = (Region.before ops).getD e.on 0 := by simp [List.getD_eq_getElem?_getD]
  rw [this]
  rcases h2 e.on with q | q
  ·rw [q] at h4; simp at h4
  ·rw [<- q]; exact h4
omit [RoLim] in
theorem before_edge {j : Nat} {o : Oper} {e : Edge} (ho : ops[j]? = some o) (he : e ∈ o.after) (hq : Region.binds .any e = true) : ahO (Region.before ops).toList e.on j = true := by
 have hb : Region.before ops = ops.toList.foldl (fun acc o => acc.push (beforeF acc o)) #[] := by
  unfold Region.before beforeF
  rw [<- Array.foldl_toList]
 obtain ⟨acc',h1,h2⟩ := (before_get ops.toList #[] j).2 o (by simpa using ho)
 rw [<- hb] at h1 h2
 have h3 : (Region.before ops).toList.getD j 0 = beforeF acc' o := by
  have h1' : (Region.before ops)[j]? = some (beforeF acc' o) := by simpa using h1
  simp [List.getD_eq_getElem?_getD,h1']
 unfold ahO
 rw [h3]
 unfold beforeF
 rw [<- Array.foldl_toList]
 exact bits_fold_back (fun m => acc'.getD m 0) (Region.binds .any) e hq o.after.toList 0 (.inl (by simpa using he))
omit [RoLim] in
theorem edges_spec {size : Nat} : ∀ {os : List Oper} {j : Nat},edgesOk size j os = true -> ∀ i o,os[i]? = some o -> ∀ e ∈ o.after,Region.binds .any e = true -> e.on < size /\ e.on ≠ j + i
 | [],j,_,i,o,ho => by simp at ho
 | x :: os,j,h,i,o,ho => by
  simp only [edgesOk,Bool.and_eq_true] at h
  cases i with
  | zero =>
   simp at ho
   subst ho
   intro e he hb
   have := List.all_eq_true.1 h.1 e (by simpa using he)
   rw [hb] at this
   simp only [Bool.not_true,Bool.false_or,Bool.and_eq_true] at this
   refine ⟨Nat.le_of_ble_eq_true this.1,fun e2 => ?_⟩
   rw [e2] at this
   simp at this
  | succ i =>
   intro e he hb
   have := edges_spec h.2 i o (by simpa using ho) e he hb
   rw [show j + (i + 1) = Nat.succ j + i by omega]
   exact this
omit [RoLim] in
theorem nat_beq_false {a b : Nat} (h : a ≠ b) : Nat.beq a b = false := by
 cases hb : Nat.beq a b with
 | false => rfl
 | true => exact absurd (Nat.eq_of_beq_eq_true hb) h
omit [RoLim] in
theorem nat_beq_ne {a b : Nat} (h : Nat.beq a b = false) : a ≠ b := fun e => by subst e; rw [Nat.beq_refl] at h; cases h
omit [RoLim] in
theorem nextOf_mem {b : List Nat} {left : List Info} {i : Info} (h : nextOf b left = some i) : i ∈ left := by
 unfold nextOf at h
 split at h
 ·rename_i j hj; injection h with h; subst h; exact List.mem_of_find?_eq_some hj
 ·split at h
  ·rename_i j hj; injection h with h; subst h; exact List.mem_of_find?_eq_some hj
  ·split at h
   ·exact List.mem_of_find?_eq_some h
   ·split at h
    ·rename_i j hj; injection h with h; subst h; exact List.mem_of_find?_eq_some hj
    ·exact List.mem_of_find?_eq_some h
omit [RoLim] in
theorem drop_length : ∀ {l : List Info} {i : Info},l.Pairwise (fun x y => x.n ≠ y.n) -> i ∈ l -> (l.filter fun j => !(Nat.beq j.n i.n)).length + 1 = l.length
 | [],i,_,h => by cases h
 | x :: l,i,hp,h => by
  rw [List.pairwise_cons] at hp
  rcases List.mem_cons.1 h with rfl | h
  ·have : (l.filter fun j => !(Nat.beq j.n i.n)) = l := by
    rw [List.filter_eq_self]
    intro j hj
    have := hp.1 j hj
    rw [nat_beq_false (Ne.symm this)]
    rfl
   simp [this]
  ·have hne : x.n ≠ i.n := hp.1 i h
   have := drop_length hp.2 h
   simp only [List.filter_cons]
   rw [if_pos (by rw [nat_beq_false hne]; rfl)]
   simp [<- this]
omit [RoLim] in
theorem order_spec {b : List Nat} : ∀ (k : Nat) (left : List Info),left.Pairwise (fun x y => x.n ≠ y.n) ->
  (∀ i ∈ orderFrom b k left,i ∈ left) /\ (left.length = k -> (orderFrom b k left).length = k -> ∀ i ∈ left,i ∈ orderFrom b k left)
 | 0,left,hp => ⟨fun i h => by simp [orderFrom] at h,fun h1 _ i hi => by rw [List.eq_nil_of_length_eq_zero h1] at hi; cases hi⟩
 | k + 1,left,hp => by
  simp only [orderFrom]
  cases hx : nextOf b left with
  | none => exact ⟨fun i h => by simp at h,fun _ h2 => by simp at h2⟩
  | some x =>
   have hm := nextOf_mem hx
   have hpf := hp.filter (fun j => !(Nat.beq j.n x.n))
   obtain ⟨a1,a2⟩ := order_spec (b := b) k (left.filter fun j => !(Nat.beq j.n x.n)) hpf
   refine ⟨fun i h => ?_,fun h1 h2 i hi => ?_⟩
   ·rcases List.mem_cons.1 h with rfl | h
    ·exact hm
    ·exact (List.mem_filter.1 (a1 i h)).1
   ·have hl := drop_length hp hm
    simp only [List.length_cons] at h2
    have := a2 (by omega) (by omega)
    by_cases e : i.n = x.n
    ·have : i = x := by
      by_cases hix : i = x
      ·exact hix
      ·exfalso
       obtain ⟨p,hp1⟩ := List.getElem?_of_mem hi
       obtain ⟨q,hq1⟩ := List.getElem?_of_mem hm
       have hpq : p ≠ q := fun e2 => by subst e2; rw [hp1] at hq1; exact hix (Option.some.inj hq1)
       exact pairwise_at (fun _ _ h => Ne.symm h) hp hp1 hq1 hpq e
     subst this
     exact List.mem_cons_self ..
    ·exact List.mem_cons_of_mem _ (this i (List.mem_filter.2 ⟨hi,by rw [nat_beq_false e]; rfl⟩))
omit [RoLim] in
theorem pairs_spec {b : List Nat} {l : List Info} : ∀ {o : List Info},pairsOk b l o = true -> o.Pairwise (fun i j => pairOk b l i j = true /\ ahO b j.n i.n = false /\ i.n ≠ j.n)
 | [],_ => .nil
 | i :: r,h => by
  simp only [pairsOk,Bool.and_eq_true,List.all_eq_true] at h
  refine List.pairwise_cons.2 ⟨fun j hj => ?_,pairs_spec h.2⟩
  obtain ⟨⟨h1,h2⟩,h3⟩ := h.1 j hj
  refine ⟨h1,by simpa using h2,fun e => ?_⟩
  rw [e] at h3
  simp at h3
omit [RoLim] in
theorem slots_spec {b : List Nat} {l : List Info} (h : slotsOk b l = true) {i j : Info} (hi : i ∈ l) (hj : j ∈ l) {d : Nat} (hd : i.dst = some d) (hx : d ∈ j.names \/ j.dst = some d) :
  i.n = j.n \/ ahO b i.n j.n = true \/ ahO b j.n i.n = true := by
 simp only [slotsOk,List.all_eq_true] at h
 have := h i hi j hj
 rw [hd] at this
 simp only [unordered,Bool.or_eq_true,Bool.not_eq_true',Bool.and_eq_true,Bool.and_eq_false_iff,decide_eq_true_eq] at this
 rcases this with (h1 | h1) | ⟨h1,h2⟩
 ·rcases h1 with h1 | h1
  ·exact .inr (.inl (by simpa using h1))
  ·exact .inr (.inr (by simpa using h1))
 ·exact .inl (by simpa using h1)
 ·rcases hx with hx | hx
  ·simp at h1; exact absurd hx h1
  ·exact absurd hx h2
omit [RoLim] in
theorem reads_spec {b : List Nat} {l : List Info} (h : readsOk b l = true) {r j : Info} (hr : r ∈ l) (hs : r.sort = .reads) (hj : j ∈ l) {d : Nat} (hd : j.dst = some d) :
  (j.n = r.n \/ r.dst ≠ some d) /\ (d ∈ r.names -> ahO b j.n r.n = true /\ j.n ≠ r.n) := by
 simp only [readsOk,List.all_eq_true] at h
 have := h r hr
 rw [hs] at this
 simp only [Bool.false_or,List.all_eq_true] at this
 have := this j hj
 rw [hd] at this
 simp only [Bool.or_eq_true,Bool.not_eq_true',Bool.and_eq_true,decide_eq_true_eq] at this
 refine ⟨this.1.imp (fun q => by simpa using q) id,fun hm => ?_⟩
 rcases this.2 with q | q
 ·simp at q; exact absurd hm q
 ·exact ⟨q.1,nat_beq_ne (by simpa using q.2)⟩
end
end Go.Xr
namespace Go.Xr
open Go.RowKit
def appl (t : Tr V) (L : List (Info × V)) : Tr V := L.foldl (fun t p => putOpt t p.1.dst p.2) t
def look (x : Nat) (v : V) (L : List (Info × V)) : V := L.foldl (fun v p => if p.1.dst = some x then p.2 else v) v
theorem slot_putOpt (t : Tr V) (i : Option Nat) (v : V) (x : Nat) : sO (putOpt t i v) x = if i = some x then v else sO t x := by
 cases i with
 | none => rfl
 | some i =>
  show sO (t.set i v) x = _
  rw [sSe]
  by_cases e : x = i
  ·rw [if_pos e,if_pos (by rw [e])]
  ·rw [if_neg e,if_neg (fun q => e (Option.some.inj q).symm)]
theorem slot_appl : ∀ (L : List (Info × V)) (t : Tr V) (x : Nat),sO (appl t L) x = look x (sO t x) L
 | [],_,_ => rfl
 | p :: L,t,x => by
  show sO (appl (putOpt t p.1.dst p.2) L) x = look x (if p.1.dst = some x then p.2 else sO t x) L
  rw [slot_appl L,slot_putOpt]
theorem look_filter (x : Nat) : ∀ (L : List (Info × V)) (v : V),look x v L = look x v (L.filter fun p => decide (p.1.dst = some x))
 | [],_ => rfl
 | p :: L,v => by
  show look x (if p.1.dst = some x then p.2 else v) L = _
  rw [List.filter_cons]
  by_cases e : p.1.dst = some x
  ·rw [if_pos e,if_pos (by simpa using e)]
   show _ = look x (if p.1.dst = some x then p.2 else v) _
   rw [if_pos e]
   exact look_filter x L _
  ·rw [if_neg e,if_neg (by simpa using e)]
   exact look_filter x L _
theorem look_append (x : Nat) (A B : List (Info × V)) (v : V) : look x v (A ++ B) = look x (look x v A) B := List.foldl_append
theorem appl_append (t : Tr V) (A B : List (Info × V)) : appl t (A ++ B) = appl (appl t A) B := List.foldl_append
theorem look_none (x : Nat) : ∀ (L : List (Info × V)) (v : V),(∀ p ∈ L,p.1.dst ≠ some x) -> look x v L = v
 | [],_,_ => rfl
 | p :: L,v,h => by
  show look x (if p.1.dst = some x then p.2 else v) L = v
  rw [if_neg (h p (List.mem_cons_self ..))]
  exact look_none x L v fun q hq => h q (List.mem_cons_of_mem _ hq)
theorem look_all (x : Nat) (q : Info × V -> Bool) (L : List (Info × V)) (v : V) (h : ∀ p ∈ L,p.1.dst = some x -> q p = true) : look x v (L.filter q) = look x v L := by
 rw [look_filter x (L.filter q),look_filter x L,List.filter_filter]
 congr 1
 refine List.filter_congr fun p hp => ?_
 by_cases e : p.1.dst = some x
 ·simp [e,h p hp e]
 ·simp [e]
theorem look_some_none (x : Nat) (q : Info × V -> Bool) (L : List (Info × V)) (v : V) (h : ∀ p ∈ L,p.1.dst = some x -> q p = false) : look x v (L.filter q) = v :=
 look_none x _ v fun p hp e => by
  obtain ⟨h1,h2⟩ := List.mem_filter.1 hp
  rw [h p h1 e] at h2
  cases h2
def Stays1 (t : Tr V) (h : Heap) (s : XStep) : Prop :=
 wantedV t s.guard = some false \/ (wantedV t s.guard = some true /\ ∃ i v h',s.dst = some i /\ oEv s.op (rd t) h = some (v,h') /\ v = sO t i)
theorem stays_spec {t : Tr V} {h : Heap} : ∀ {ss : List XStep},stays t h ss = true -> ∀ s ∈ ss,Stays1 t h s
 | [],_,s,hs => by cases hs
 | x :: ss,hst,s,hs => by
  simp only [stays,Bool.and_eq_true] at hst
  rcases List.mem_cons.1 hs with rfl | hs
  ·have h1 := hst.1
   cases hw : wantedV t s.guard with
   | none => rw [hw] at h1; cases h1
   | some b => cases b with
    | false => exact .inl hw
    | true =>
    refine .inr ⟨hw,?_⟩
    rw [hw] at h1
    simp only at h1
    split at h1
    ·rename_i i v h' e1 e2
     exact ⟨i,v,h',e1,e2,V.same_eq _ _ h1⟩
    ·cases h1
  ·exact stays_spec hst.2 s hs
inductive Tra (ih : Task -> Option Out) (rnd : Option Nat) (b : List Nat) : List Info -> List (Info × V) -> Tr V -> List XDef -> Heap -> Tr V -> List XDef -> Heap -> Prop
 | nil {done : List Info} {t : Tr V} {d : List XDef} {h : Heap} : Tra ih rnd b done [] t d h t d h
 | cons {done : List Info} {i : Info} {v : V} {T : List (Info × V)} {t t2 : Tr V} {d d1 d2 : List XDef} {h h1 h2 : Heap} (hs : runStep ih i.step rnd t d h = some (v,d1,h1))
   (hst : loud i.sort = true -> ∀ r ∈ done,r.sort = .reads -> ahO b r.n i.n = false -> Stays1 (putOpt t i.dst v) h1 r.step)
   (hr : Tra ih rnd b (done ++ [i]) T (putOpt t i.dst v) d1 h1 t2 d2 h2) : Tra ih rnd b done ((i,v) :: T) t d h t2 d2 h2
section
variable {ih : Task -> Option Out} {rnd : Option Nat} {b : List Nat}
theorem tra_of_lines : ∀ {o done : List Info} {t t2 : Tr V} {d d2 : List XDef} {h h2 : Heap},(∀ I ∈ o,I.step.dst = I.dst) -> runLines ih rnd (linesOf b done o) t d h = some (t2,d2,h2) ->
  ∃ T,T.map (·.1) = o /\ Tra ih rnd b done T t d h t2 d2 h2
 | [],done,t,t2,d,d2,h,h2,_,hr => by
  simp only [linesOf,runLines,Option.some.injEq,Prod.mk.injEq] at hr
  obtain ⟨rfl,rfl,rfl⟩ := hr
  exact ⟨[],rfl,.nil⟩
 | i :: o,done,t,t2,d,d2,h,h2,hd,hr => by
  simp only [linesOf,runLines] at hr
  split at hr <;> try (cases hr; done)
  rename_i v d1 h1 hs
  rw [hd i (List.mem_cons_self ..)] at hr
  split at hr <;> try (cases hr; done)
  rename_i hst
  obtain ⟨T,e,hT⟩ := tra_of_lines (fun I hI => hd I (List.mem_cons_of_mem _ hI)) hr
  refine ⟨(i,v) :: T,by simp [e],.cons hs (fun hl r hr1 hr2 hr3 => ?_) hT⟩
  rw [hl] at hst
  refine stays_spec hst r.step (List.mem_map.2 ⟨r,List.mem_filter.2 ⟨hr1,?_⟩,rfl⟩)
  simp [hr2,hr3]
theorem tra_appl {done : List Info} {T : List (Info × V)} {t t2 : Tr V} {d d2 : List XDef} {h h2 : Heap} (hT : Tra ih rnd b done T t d h t2 d2 h2) : t2 = appl t T := by
 induction hT with
 | nil => rfl
 | cons _ _ _ ih1 => exact ih1
theorem tra_append : ∀ {A B : List (Info × V)} {done : List Info} {t t2 : Tr V} {d d2 : List XDef} {h h2 : Heap},Tra ih rnd b done (A ++ B) t d h t2 d2 h2 ->
  ∃ dm hm,Tra ih rnd b done A t d h (appl t A) dm hm /\ Tra ih rnd b (done ++ A.map (·.1)) B (appl t A) dm hm t2 d2 h2
 | [],B,done,t,t2,d,d2,h,h2,hT => ⟨d,h,.nil,by rw [show done ++ ([] : List (Info × V)).map (·.1) = done by simp]; exact hT⟩
 | p :: A,B,done,t,t2,d,d2,h,h2,hT => by
  cases hT with
  | cons hs hst hr =>
   obtain ⟨dm,hm,q1,q2⟩ := tra_append hr
   refine ⟨dm,hm,.cons hs hst q1,?_⟩
   rw [List.append_assoc] at q2
   exact q2
def LookV (s : XStep) (t : Tr V) (h : Heap) (v : V) : Prop := (wantedV t s.guard = some false /\ v = V.undef) \/ (wantedV t s.guard = some true /\ oEv s.op (rd t) h = some (v,h))
theorem looks_heap {op : XOp} {ρ : Rd} {h h' : Heap} {v : V} (hs : loud op.sort = false) (he : oEv op ρ h = some (v,h')) : h' = h := by
 cases op <;> simp only [XOp.sort,loud] at hs <;> try (cases hs; done)
 all_goals (simp only [oEv] at he; (repeat' (split at he)) <;> first | (simp at he; done) | (simp only [Option.some.injEq,Prod.mk.injEq] at he; exact he.2.symm))
theorem quiet_any {op : XOp} {ρ : Rd} {h : Heap} {v : V} (hs : op.sort = .quiet) (he : oEv op ρ h = some (v,h)) (h2 : Heap) : oEv op ρ h2 = some (v,h2) := by
 cases op <;> simp only [XOp.sort] at hs <;> try (cases hs; done)
 all_goals (simp only [oEv] at he ⊢; (repeat' (split at he)) <;> first | (simp at he; done) | (simp only [Option.some.injEq,Prod.mk.injEq] at he; obtain ⟨he,_⟩ := he; subst he; first | rfl | (simp [*]; done)))
theorem quiet_step {s : XStep} {t : Tr V} {d d1 : List XDef} {h h1 : Heap} {v : V} (hs : loud s.op.sort = false) (hr : runStep ih s rnd t d h = some (v,d1,h1)) : d1 = d /\ h1 = h /\ LookV s t h v := by
 unfold runStep at hr
 split at hr
 ·cases hr
 ·rename_i hw
  simp only [Option.some.injEq,Prod.mk.injEq] at hr
  obtain ⟨rfl,rfl,rfl⟩ := hr
  exact ⟨rfl,rfl,.inl ⟨hw,rfl⟩⟩
 ·rename_i hw
  have main : (match oEv s.op (rd t) h with | some (v,h) => some (v,d,h) | none => none) = some (v,d1,h1) -> d1 = d /\ h1 = h /\ LookV s t h v := by
   intro hr
   split at hr <;> simp at hr
   rename_i v' h' he
   obtain ⟨rfl,rfl,rfl⟩ := hr
   have := looks_heap hs he
   subst this
   exact ⟨rfl,rfl,.inr ⟨hw,he⟩⟩
  simp only at hr
  split at hr
  ·rename_i f args e; rw [e] at hs; simp [XOp.sort,loud] at hs
  ·rename_i f args e; rw [e] at hs; simp [XOp.sort,loud] at hs
  ·rename_i it e; rw [e] at hs; simp [XOp.sort,loud] at hs
  ·rename_i x rows args e; rw [e] at hs; simp [XOp.sort,loud] at hs
  ·exact main hr
end
end Go.Xr
namespace Go.Xr
open Go.RowKit
structure Reg (P : Program) (n : Nat) (ops : Array Oper) (b : List Nat) (o : List Info) : Prop where
 of : ∀ I ∈ o, ∃ op,Of P n ops I op
 all : ∀ i,i < ops.size -> ∃ I ∈ o,I.n = i
 pw : o.Pairwise (fun i j => pairOk b o i j = true /\ ahO b j.n i.n = false /\ i.n ≠ j.n)
 slots : ∀ i ∈ o, ∀ j ∈ o, ∀ d,i.dst = some d -> (d ∈ j.names \/ j.dst = some d) -> i.n = j.n \/ ahO b i.n j.n = true \/ ahO b j.n i.n = true
 reads : ∀ r ∈ o,r.sort = .reads -> ∀ j ∈ o, ∀ d,j.dst = some d -> (j.n = r.n \/ r.dst ≠ some d) /\ (d ∈ r.names -> ahO b j.n r.n = true /\ j.n ≠ r.n)
 edge : ∀ j op,ops[j]? = some op -> ∀ e ∈ op.after,Region.binds .any e = true -> e.on < ops.size /\ e.on ≠ j /\ ahO b e.on j = true
section
variable [RoLim] {P : Program} {n : Nat} {ops : Array Oper} {b : List Nat} {o : List Info}
omit [RoLim] in
theorem guard_mem {op : Oper} {g : Nat} {want : Bool} (h : guardOf ops op.guard = some (some (g,want))) : g ∈ names ops op := by
 unfold guardOf at h
 split at h
 ·simp at h
 ·rename_i j w h0
  split at h <;> try (cases h; done)
  rename_i oj hj
  split at h <;> try (cases h; done)
  rename_i dd hd
  simp only [Option.some.injEq,Prod.mk.injEq] at h
  obtain ⟨rfl,rfl⟩ := h
  unfold names
  refine List.mem_append_right _ ?_
  simp [h0,hj,hd]
omit [RoLim] in
theorem wanted_agree {I : Info} {op : Oper} (hI : Of P n ops I op) {t1 t2 : Tr V} (h : ∀ x ∈ I.names,sO t1 x = sO t2 x) : wantedV t1 I.step.guard = wantedV t2 I.step.guard := by
 obtain ⟨_,q2,_,_⟩ := compStep_some hI.comp
 cases hg : I.step.guard with
 | none => rfl
 | some gw =>
  obtain ⟨g,want⟩ := gw
  rw [hg] at q2
  have := h g (by rw [hI.names]; exact guard_mem q2)
  simp only [wantedV,this]
omit [RoLim] in
theorem Reg.uniq (G : Reg P n ops b o) {i j : Info} (hi : i ∈ o) (hj : j ∈ o) (e : i.n = j.n) : i = j := by
 by_cases h : i = j
 ·exact h
 ·exfalso
  obtain ⟨p,hp⟩ := List.getElem?_of_mem hi
  obtain ⟨q,hq⟩ := List.getElem?_of_mem hj
  have hpq : p ≠ q := fun e2 => by subst e2; rw [hp] at hq; exact h (Option.some.inj hq)
  exact pairwise_at (R := fun x y : Info => x.n ≠ y.n) (fun _ _ h => Ne.symm h) (G.pw.imp fun h => h.2.2) hp hq hpq e
variable {ih : Task -> Option Out} {rnd : Option Nat} {t0 t2 : Tr V} {d2 : List XDef} {h2 : Heap}
def has (listed : Array Bool) (i : Nat) : Bool := listed.getD i false
structure Inv (P : Program) (n : Nat) (ops : Array Oper) (b : List Nat) (o : List Info) (ih : Task -> Option Out) (rnd : Option Nat) (t0 t2 : Tr V) (d2 : List XDef) (h2 : Heap)
  (listed : Array Bool) (pre suf : List (Info × V)) (d : List XDef) (h : Heap) : Prop where
 whole : (pre ++ suf).map (·.1) = o
 size : listed.size = ops.size
 tra : Tra ih rnd b (pre.map (·.1)) suf (appl t0 pre) d h t2 d2 h2
 did : ∀ p ∈ pre,loud p.1.sort = true -> has listed p.1.n = true
 will : ∀ p ∈ suf,loud p.1.sort = true -> has listed p.1.n = false
 closed : ∀ j,has listed j = true -> ∀ i,ahO b i j = true -> has listed i = true
 wit : ∀ A p B,pre = A ++ p :: B -> has listed p.1.n = false -> ∃ ts,(∀ x ∈ p.1.names,sO ts x = sO (appl t0 A) x) /\ LookV p.1.step ts h p.2
def doneL (listed : Array Bool) (T : List (Info × V)) : List (Info × V) := T.filter fun p => has listed p.1.n
omit [RoLim] in
theorem has_set {listed : Array Bool} {i j : Nat} (hi : i < listed.size) : has (listed.setIfInBounds i true) j = (decide (j = i) || has listed j) := by
 unfold has
 by_cases e : j = i
 ·subst e; simp [hi]
 ·simp [e,Array.getElem?_setIfInBounds_ne (Ne.symm e)]
section
variable {listed : Array Bool} {pre suf : List (Info × V)} {d : List XDef} {h : Heap}
omit [RoLim] in
theorem slots_agree (G : Reg P n ops b o) {T : List (Info × V)} (hT : T.map (·.1) = o) (hcl : ∀ j,has listed j = true -> ∀ i,ahO b i j = true -> has listed i = true) {A B : List (Info × V)} {p : Info × V} (hTp : T = A ++ p :: B)
  (hno : has listed p.1.n = false) (hready : ∀ i,ahO b i p.1.n = true -> has listed i = true) {x : Nat} (hx : x ∈ p.1.names \/ p.1.dst = some x) :
  look x (sO t0 x) (doneL listed T) = look x (sO t0 x) (doneL listed A) /\ (look x (sO t0 x) (doneL listed A) = sO (appl t0 A) x) := by
 subst hTp
 have hmap : o = A.map (·.1) ++ p.1 :: B.map (·.1) := by rw [<- hT]; simp
 have hpw := G.pw
 rw [hmap,List.pairwise_append] at hpw
 obtain ⟨_,hpB,hAB⟩ := hpw
 rw [List.pairwise_cons] at hpB
 have hpo : p.1 ∈ o := by rw [hmap]; simp
 have hA : ∀ q ∈ A,q.1.dst = some x -> has listed q.1.n = true := by
  intro q hq hqd
  have hqo : q.1 ∈ o := by rw [hmap]; exact List.mem_append_left _ (List.mem_map.2 ⟨q,hq,rfl⟩)
  have hpair := hAB q.1 (List.mem_map.2 ⟨q,hq,rfl⟩) p.1 (List.mem_cons_self ..)
  rcases G.slots q.1 hqo p.1 hpo x hqd hx with e | e | e
  ·exact absurd e hpair.2.2
  ·exact hready _ e
  ·rw [hpair.2.1] at e; cases e
 have hB : ∀ q ∈ B,q.1.dst = some x -> has listed q.1.n = false := by
  intro q hq hqd
  have hqo : q.1 ∈ o := by rw [hmap]; exact List.mem_append_right _ (List.mem_cons_of_mem _ (List.mem_map.2 ⟨q,hq,rfl⟩))
  have hpair := hpB.1 q.1 (List.mem_map.2 ⟨q,hq,rfl⟩)
  rcases G.slots q.1 hqo p.1 hpo x hqd hx with e | e | e
  ·exact absurd e.symm hpair.2.2
  ·rw [hpair.2.1] at e; cases e
  ·cases hh : has listed q.1.n with
   | false => rfl
   | true => rw [hcl _ hh _ e] at hno; cases hno
 refine ⟨?_,?_⟩
 ·unfold doneL
  rw [List.filter_append,look_append,List.filter_cons,if_neg (by rw [hno]; simp)]
  exact look_some_none x _ B _ hB
 ·unfold doneL
  rw [look_all x _ A _ hA,slot_appl]
omit [RoLim] in
theorem slots_done (G : Reg P n ops b o) {T : List (Info × V)} (hT : T.map (·.1) = o) (hcl : ∀ j,has listed j = true -> ∀ i,ahO b i j = true -> has listed i = true) {A B : List (Info × V)} {p : Info × V} (hTp : T = A ++ p :: B)
  (hno : has listed p.1.n = false) (hlt : p.1.n < listed.size) (x : Nat) :
  sO (appl t0 (doneL (listed.setIfInBounds p.1.n true) T)) x = sO (putOpt (appl t0 (doneL listed T)) p.1.dst p.2) x := by
 subst hTp
 have hmap : o = A.map (·.1) ++ p.1 :: B.map (·.1) := by rw [<- hT]; simp
 have hpw := G.pw
 rw [hmap,List.pairwise_append] at hpw
 obtain ⟨_,hpB,hAB⟩ := hpw
 rw [List.pairwise_cons] at hpB
 have hpo : p.1 ∈ o := by rw [hmap]; simp
 have hfil : ∀ (L : List (Info × V)),(∀ q ∈ L,q.1.n ≠ p.1.n) -> doneL (listed.setIfInBounds p.1.n true) L = doneL listed L := by
  intro L hL
  unfold doneL
  refine List.filter_congr fun q hq => ?_
  rw [has_set hlt]
  simp [hL q hq]
 have hA : doneL (listed.setIfInBounds p.1.n true) A = doneL listed A := hfil A fun q hq => (hAB q.1 (List.mem_map.2 ⟨q,hq,rfl⟩) p.1 (List.mem_cons_self ..)).2.2
 have hB : doneL (listed.setIfInBounds p.1.n true) B = doneL listed B := hfil B fun q hq => Ne.symm (hpB.1 q.1 (List.mem_map.2 ⟨q,hq,rfl⟩)).2.2
 have e1 : doneL (listed.setIfInBounds p.1.n true) (A ++ p :: B) = doneL listed A ++ p :: doneL listed B := by
  rw [<- hA, <- hB]
  unfold doneL
  rw [List.filter_append,List.filter_cons,if_pos (by rw [has_set hlt]; simp)]
 have e2 : doneL listed (A ++ p :: B) = doneL listed A ++ doneL listed B := by
  unfold doneL
  rw [List.filter_append,List.filter_cons,if_neg (by rw [hno]; simp)]
 rw [e1,e2,slot_putOpt,slot_appl,slot_appl,look_append,look_append]
 show look x (if p.1.dst = some x then p.2 else _) (doneL listed B) = _
 by_cases e : p.1.dst = some x
 ·rw [if_pos e,if_pos e]
  unfold doneL
  refine look_some_none x _ B _ fun q hq hqd => ?_
  have hqo : q.1 ∈ o := by rw [hmap]; exact List.mem_append_right _ (List.mem_cons_of_mem _ (List.mem_map.2 ⟨q,hq,rfl⟩))
  have hpair := hpB.1 q.1 (List.mem_map.2 ⟨q,hq,rfl⟩)
  rcases G.slots q.1 hqo p.1 hpo x hqd (.inr e) with e | e | e
  ·exact absurd e.symm hpair.2.2
  ·rw [hpair.2.1] at e; cases e
  ·cases hh : has listed q.1.n with
   | false => rfl
   | true => rw [hcl _ hh _ e] at hno; cases hno
 ·rw [if_neg e,if_neg e]
def Resp (b : List Nat) (listed : Array Bool) (L : List Nat) : Prop := ∀ A i B,L = A ++ i :: B -> ∀ j,ahO b j i = true -> has listed j = true \/ j ∈ A
omit [RoLim] in
theorem Resp.tail {i : Nat} {L : List Nat} (h : Resp b listed (i :: L)) (hi : i < listed.size) : Resp b (listed.setIfInBounds i true) L := by
 intro A j B e x hx
 rcases h (i :: A) j B (by rw [e]; rfl) x hx with h1 | h1
 ·left; rw [has_set hi,h1,Bool.or_true]
 ·rcases List.mem_cons.1 h1 with rfl | h1
  ·left; rw [has_set hi]; simp
  ·exact .inr h1
omit [RoLim] in
theorem ready_facts (hsz : listed.size = ops.size) {i : Nat} (hi : i ∈ Region.ready .any ops listed) {L : List Nat} (hres : Resp b listed (i :: L)) :
  i < ops.size /\ has listed i = false /\ ∀ j,ahO b j i = true -> has listed j = true := by
 obtain ⟨h1,op,h3,h4⟩ := mem_ready.1 hi
 have hlt : i < ops.size := (Array.getElem?_eq_some_iff.1 h3).1
 refine ⟨hlt,?_,fun j hj => ?_⟩
 ·unfold has
  simpa [hsz,hlt] using h1
 ·rcases hres [] i L rfl j hj with h | h
  ·exact h
  ·cases h
omit [RoLim] in
theorem resp_go (hback : ∀ i j op,ops[j]? = some op -> ahO b i j = true -> ∃ e ∈ op.after,Region.binds .any e = true /\ (i = e.on \/ ahO b i e.on = true)) : ∀ (fuel tt : Nat) (listed : Array Bool),listed.size = ops.size ->
  (∀ j,has listed j = true -> ∀ i,ahO b i j = true -> has listed i = true) -> Resp b listed (Region.linearise.go .any ops fuel tt listed [])
 | 0,tt,listed,_,_ => by
  intro A i B e
  simp [Region.linearise.go] at e
 | fuel + 1,tt,listed,hsz,hcl => by
  intro A x B e j hj
  simp only [Region.linearise.go] at e
  change (match (Region.ready .any ops listed)[tt % (Region.ready .any ops listed).length]? with
    | some i => Region.linearise.go .any ops fuel (tt / (Region.ready .any ops listed).length) (listed.setIfInBounds i true) [i]
    | none => [].reverse) = A ++ x :: B at e
  cases hi : (Region.ready .any ops listed)[tt % (Region.ready .any ops listed).length]? with
  | none => rw [hi] at e; simp at e
  | some i =>
   rw [hi] at e
   simp only at e
   rw [linearise_go_acc,List.reverse_singleton,List.singleton_append] at e
   have hrd := List.mem_of_getElem? hi
   obtain ⟨h1,op,h3,h4⟩ := mem_ready.1 hrd
   have hlt : i < listed.size := by rw [hsz]; exact (Array.getElem?_eq_some_iff.1 h3).1
   have hahead : ∀ k,ahO b k i = true -> has listed k = true := by
    intro k hk
    obtain ⟨e1,he,hb,hor⟩ := hback k i op h3 hk
    have := h4 e1 he hb
    rcases hor with rfl | hor
    ·exact this
    ·exact hcl e1.on this k hor
   cases A with
   | nil =>
    simp only [List.nil_append,List.cons.injEq] at e
    rw [<- e.1] at hj
    exact .inl (hahead j hj)
   | cons a A =>
    simp only [List.cons_append,List.cons.injEq] at e
    obtain ⟨rfl,e⟩ := e
    have ih := resp_go hback fuel (tt / (Region.ready .any ops listed).length) (listed.setIfInBounds i true) (by simpa using hsz) (fun j2 hj2 i2 hi2 => by
     rw [has_set hlt] at hj2 ⊢
     rcases Bool.or_eq_true _ _ ▸ hj2 with q | q
     ·rw [of_decide_eq_true q] at hi2
      rw [hahead i2 hi2,Bool.or_true]
     ·rw [hcl j2 q i2 hi2,Bool.or_true])
    rcases ih A x B e j hj with q | q
    ·rw [has_set hlt] at q
     rcases Bool.or_eq_true _ _ ▸ q with q | q
     ·exact .inr (by rw [of_decide_eq_true q]; exact List.mem_cons_self)
     ·exact .inl q
    ·exact .inr (List.mem_cons_of_mem _ q)
omit [RoLim] in
theorem linear_go (hb : ∀ {i j op},ops[j]? = some op -> ahO b i j = true -> ∃ e ∈ op.after,Region.binds .any e = true /\ (i = e.on \/ ahO b i e.on = true))
  (he : ∀ {j op e},ops[j]? = some op -> e ∈ op.after -> Region.binds .any e = true -> e.on < ops.size /\ e.on ≠ j /\ ahO b e.on j = true) (ht : ∀ j,j < ops.size -> ∀ i,i < j -> ahO b i j = true /\ ahO b j i = false) :
  ∀ (m k tt : Nat) (listed : Array Bool),k + m = ops.size -> listed.size = ops.size -> (∀ i,i < ops.size -> has listed i = decide (i < k)) -> Region.linearise.go .any ops m tt listed [] = List.range' k m
 | 0,k,tt,listed,_,_,_ => by simp [Region.linearise.go]
 | m + 1,k,tt,listed,hk,hsz,hl => by
  have hlt : k < ops.size := by omega
  have unl : ∀ i,i < ops.size -> (listed.getD i true = false ↔ ¬ i < k) := by
   intro i hi
   have := hl i hi
   unfold has at this
   have e : listed.getD i true = listed.getD i false := by simp [hsz,hi]
   rw [e,this,decide_eq_false_iff_not]
  have kr : k ∈ Region.ready .any ops listed := by
   refine mem_ready.2 ⟨(unl k hlt).2 (Nat.lt_irrefl k),ops[k],Array.getElem?_eq_getElem hlt,fun e hem hbd => ?_⟩
   obtain ⟨q1,q2,q3⟩ := he (Array.getElem?_eq_getElem hlt) hem hbd
   have := hl e.on q1
   unfold has at this
   rw [this,decide_eq_true_iff]
   rcases Nat.lt_trichotomy e.on k with h | h | h
   ·exact h
   ·exact absurd h q2
   ·have := (ht e.on q1 k h).2
    rw [q3] at this
    cases this
  have ki : ∀ i ∈ Region.ready .any ops listed,i = k := by
   intro i hi
   obtain ⟨h1,op,h3,h4⟩ := mem_ready.1 hi
   have hil : i < ops.size := (Array.getElem?_eq_some_iff.1 h3).1
   have hge := (unl i hil).1 h1
   by_cases hik : i = k
   ·exact hik
   ·exfalso
    obtain ⟨e,hem,hbd,hor⟩ := hb h3 (ht i hil k (by omega)).1
    have hon := h4 e hem hbd
    have q1 := (he h3 hem hbd).1
    have hlk := hl e.on q1
    unfold has at hlk
    rw [hon] at hlk
    have hlk := of_decide_eq_true hlk.symm
    rcases hor with rfl | hor
    ·exact Nat.lt_irrefl _ hlk
    ·have := (ht k hlt e.on hlk).2
     rw [hor] at this
     cases this
  simp only [Region.linearise.go]
  change (match (Region.ready .any ops listed)[tt % (Region.ready .any ops listed).length]? with
    | some i => Region.linearise.go .any ops m (tt / (Region.ready .any ops listed).length) (listed.setIfInBounds i true) [i]
    | none => [].reverse) = List.range' k (m + 1)
  cases hi : (Region.ready .any ops listed)[tt % (Region.ready .any ops listed).length]? with
  | none =>
   exfalso
   have hlt : tt % (Region.ready .any ops listed).length < (Region.ready .any ops listed).length := Nat.mod_lt _ (List.length_pos_iff.2 (List.ne_nil_of_mem kr))
   rw [List.getElem?_eq_none_iff] at hi
   omega
  | some i =>
   have := ki i (List.mem_of_getElem? hi)
   subst this
   simp only
   rw [linearise_go_acc,List.reverse_singleton,List.singleton_append,List.range'_succ]
   congr 1
   refine linear_go hb he ht m (i + 1) _ _ (by omega) (by simpa using hsz) fun j hj => ?_
   rw [has_set (by rw [hsz]; exact hlt),hl j hj]
   by_cases h1 : j = i
   ·subst h1; simp
   ·have : (j < i + 1) ↔ j < i := by omega
    simp [h1,this]
def Prec (x y : Nat) (L : List Nat) : Prop := ∀ A B,L = A ++ y :: B -> x ∈ A
omit [RoLim] in
theorem prec_total {x y : Nat} (hne : x ≠ y) : ∀ L : List Nat,Prec x y L \/ Prec y x L
 | [] => .inl fun A B e => by simp at e
 | a :: L => by
  by_cases hx : a = x
  ·subst hx
   refine .inl fun A B e => ?_
   cases A with
   | nil => simp only [List.nil_append,List.cons.injEq] at e; exact absurd e.1 hne
   | cons c A => simp only [List.cons_append,List.cons.injEq] at e; rw [e.1]; exact List.mem_cons_self
  ·by_cases hy : a = y
   ·subst hy
    refine .inr fun A B e => ?_
    cases A with
    | nil => simp only [List.nil_append,List.cons.injEq] at e; exact absurd e.1 hx
    | cons c A => simp only [List.cons_append,List.cons.injEq] at e; rw [e.1]; exact List.mem_cons_self
   ·rcases prec_total hne L with ih | ih
    ·refine .inl fun A B e => ?_
     cases A with
     | nil => simp only [List.nil_append,List.cons.injEq] at e; exact absurd e.1 hy
     | cons c A => simp only [List.cons_append,List.cons.injEq] at e; exact List.mem_cons_of_mem _ (ih A B e.2)
    ·refine .inr fun A B e => ?_
     cases A with
     | nil => simp only [List.nil_append,List.cons.injEq] at e; exact absurd e.1 hx
     | cons c A => simp only [List.cons_append,List.cons.injEq] at e; exact List.mem_cons_of_mem _ (ih A B e.2)
omit [RoLim] in
theorem addEdge_getD (x y j : Nat) : (addEdge b x y).getD j 0 = if j < b.length then (match Nat.beq j y || (b.getD j 0).testBit y with | true => b.getD j 0 ||| 2 ^ x ||| b.getD x 0 | false => b.getD j 0) else 0 := by
 unfold addEdge
 rw [List.getD_eq_getElem?_getD,List.getElem?_map,List.getElem?_zipIdx]
 by_cases h : j < b.length
 ·rw [if_pos h,List.getElem?_eq_getElem h]
  simp [List.getD_eq_getElem?_getD,h]
  cases (Nat.beq j y || b[j].testBit y) <;> rfl
 ·rw [if_neg h,List.getElem?_eq_none (by omega)]
  rfl
omit [RoLim] in
theorem ahead_lt {i j : Nat} (h : ahO b i j = true) : j < b.length := by
 unfold ahO at h
 rw [List.getD_eq_getElem?_getD] at h
 by_cases hl : j < b.length
 ·exact hl
 ·rw [List.getElem?_eq_none (by omega)] at h
  simp at h
omit [RoLim] in
theorem add_ahead {x y i j : Nat} (h : ahO (addEdge b x y) i j = true) : ahO b i j = true \/ ((j = y \/ ahO b y j = true) /\ (i = x \/ ahO b i x = true)) := by
 unfold ahO at h ⊢
 rw [addEdge_getD] at h
 by_cases hl : j < b.length
 ·rw [if_pos hl] at h
  cases e : (Nat.beq j y || (b.getD j 0).testBit y) with
  | false => rw [e] at h; exact .inl h
  | true =>
   rw [e] at h
   simp only [Nat.testBit_or,Nat.testBit_two_pow,Bool.or_eq_true,decide_eq_true_eq] at h
   rw [Bool.or_eq_true] at e
   rcases h with (h | h) | h
   ·exact .inl h
   ·exact .inr ⟨e.imp Nat.eq_of_beq_eq_true id,.inl h.symm⟩
   ·exact .inr ⟨e.imp Nat.eq_of_beq_eq_true id,.inr h⟩
 ·rw [if_neg hl] at h; simp at h
omit [RoLim] in
theorem add_sub {x y i j : Nat} (h : ahO b i j = true) : ahO (addEdge b x y) i j = true := by
 have hl := ahead_lt h
 unfold ahO at h ⊢
 rw [addEdge_getD,if_pos hl]
 cases (Nat.beq j y || (b.getD j 0).testBit y) with
 | false => exact h
 | true => simp only [Nat.testBit_or,h,Bool.true_or]
omit [RoLim] in
theorem resp_add {x y : Nat} {L : List Nat} (hno : ∀ i,has listed i = false) (hr : Resp b listed L) (hp : Prec x y L) : Resp (addEdge b x y) listed L := by
 have in' : ∀ {A i B j},L = A ++ i :: B -> ahO b j i = true -> j ∈ A := fun e h => (hr _ _ _ e _ h).resolve_left (by rw [hno]; simp)
 intro A j B e i hi
 rcases add_ahead hi with h | ⟨h1,h2⟩
 ·exact .inr (in' e h)
 ·right
  have hx : x ∈ A := by
   rcases h1 with rfl | h1
   ·exact hp A B e
   ·have hy := in' e h1
    obtain ⟨A1,A2,rfl⟩ := List.append_of_mem hy
    have := hp A1 (A2 ++ j :: B) (by rw [e]; simp)
    exact List.mem_append_left _ this
  rcases h2 with rfl | h2
  ·exact hx
  ·obtain ⟨A1,A2,rfl⟩ := List.append_of_mem hx
   have := in' (A := A1) (i := x) (B := A2 ++ j :: B) (by rw [e]; simp) h2
   exact List.mem_append_left _ this
omit [RoLim] in
theorem some_ready (G : Reg P n ops b o) (hsz : listed.size = ops.size) : ∀ (C D : List Info),o = C ++ D -> (∀ I ∈ C,has listed I.n = true) -> (∃ I ∈ D,has listed I.n = false) -> Region.ready .any ops listed ≠ []
 | C,[],_,_,h => by obtain ⟨I,hI,_⟩ := h; cases hI
 | C,I :: D,ho,hC,h => by
  cases hh : has listed I.n with
  | true =>
   refine some_ready G hsz (C ++ [I]) D (by rw [ho]; simp) (fun J hJ => ?_) ?_
   ·rcases List.mem_append.1 hJ with hJ | hJ
    ·exact hC J hJ
    ·rw [List.mem_singleton.1 hJ]; exact hh
   ·obtain ⟨J,hJ,hJn⟩ := h
    rcases List.mem_cons.1 hJ with rfl | hJ
    ·rw [hh] at hJn; cases hJn
    ·exact ⟨J,hJ,hJn⟩
  | false =>
   have hIo : I ∈ o := by rw [ho]; simp
   obtain ⟨op,hop⟩ := G.of I hIo
   have hlt : I.n < ops.size := (Array.getElem?_eq_some_iff.1 hop.at_).1
   have : I.n ∈ Region.ready .any ops listed := by
    refine mem_ready.2 ⟨?_,op,hop.at_,fun e he hb => ?_⟩
    ·unfold has at hh; simpa [hsz,hlt] using hh
    ·obtain ⟨q1,q2,q3⟩ := G.edge I.n op hop.at_ e he hb
     obtain ⟨E,hE,hEn⟩ := G.all e.on q1
     have hpw := G.pw
     rw [ho,List.pairwise_append,List.pairwise_cons] at hpw
     rw [ho] at hE
     rcases List.mem_append.1 hE with hE | hE
     ·have := hC E hE
      rw [hEn] at this
      exact this
     ·rcases List.mem_cons.1 hE with rfl | hE
      ·exact absurd hEn.symm q2
      ·have := (hpw.2.1.1 E hE).2.1
       rw [hEn,q3] at this
       cases this
   exact fun e => by rw [e] at this; cases this
end
end
end Go.Xr
namespace Go.Xr
open Go.RowKit
mutual
theorem VR.closed {μ μ2 : Mu} : ∀ (v : V) {x : Value},closedV v = true -> VR μ v x -> VR μ2 v x
 | .int k n,_,_,h => by cases h; exact .int ..
 | .bool b,_,_,h => by cases h; exact .bool ..
 | .str s,_,_,h => by cases h; exact .str ..
 | .nilp,_,_,h => by cases h; exact .nilp
 | .nils,_,_,h => by cases h; exact .nils
 | .nilm,_,_,h => by cases h; exact .nilm
 | .nilf,_,_,h => by cases h; exact .nilf
 | .nili,_,_,h => by cases h; exact .nili
 | .func f a b,_,hc,h => by
  simp only [closedV,Bool.and_eq_true] at hc
  cases h with
  | func h h' => exact .func (VRs.closed a hc.1 h) (VRs.closed b hc.2 h')
 | .iface t v,_,hc,h => by
  simp only [closedV] at hc
  cases h with
  | iface h => exact .iface (VR.closed v hc h)
 | .agg vs,_,hc,h => by
  simp only [closedV] at hc
  cases h with
  | agg h => exact .agg (VRs.closed vs hc h)
 | .tup vs,_,hc,h => by
  simp only [closedV] at hc
  cases h with
  | tup h => exact .tup (VRs.closed vs hc h)
 | .ptr ..,_,hc,_ => by simp [closedV] at hc
 | .slice ..,_,hc,_ => by simp [closedV] at hc
 | .map _,_,hc,_ => by simp [closedV] at hc
 | .yield _,_,hc,_ => by simp [closedV] at hc
 | .iter _,_,hc,_ => by simp [closedV] at hc
 | .any,_,hc,_ => by simp [closedV] at hc
 | .hole _,_,hc,_ => by simp [closedV] at hc
 | .stamp _,_,hc,_ => by simp [closedV] at hc
theorem VRs.closed {μ μ2 : Mu} : ∀ (vs : List V) {xs : List Value},closedVs vs = true -> VRs μ vs xs -> VRs μ2 vs xs
 | [],_,_,h => by cases h; exact .nil
 | v :: vs,_,hc,h => by
  simp only [closedVs,Bool.and_eq_true] at hc
  cases h with
  | cons h h' => exact .cons (VR.closed v hc.1 h) (VRs.closed vs hc.2 h')
end
mutual
theorem VR.down {μ μ' : Mu} (hle : μ.le μ') : ∀ {v : V} {x0 : Value},VR μ v x0 -> ∀ {x : Value},VR μ' v x -> VR μ v x
 | _,_,.int k n,_,h => by cases h; exact .int ..
 | _,_,.bool b,_,h => by cases h; exact .bool ..
 | _,_,.str s,_,h => by cases h; exact .str ..
 | _,_,.nilp,_,h => by cases h; exact .nilp
 | _,_,.ptr h0,_,h => by
  cases h with
  | ptr h1 => have := hle _ _ _ h0; rw [h1] at this; cases this; exact .ptr h0
 | _,_,.nils,_,h => by cases h; exact .nils
 | _,_,.exact h0 _ _ _,_,h => by
  cases h with
  | exact h1 a ha hc => have := hle _ _ _ h0; rw [h1] at this; cases this; exact .exact h0 a ha hc
 | _,_,.rest h0 _ _ _ _ _,_,h => by
  cases h with
  | rest h1 a ha hn ho he => have := hle _ _ _ h0; rw [h1] at this; cases this; exact .rest h0 a ha hn ho he
 | _,_,.nilm,_,h => by cases h; exact .nilm
 | _,_,.map h0,_,h => by
  cases h with
  | map h1 => have := hle _ _ _ h0; rw [h1] at this; cases this; exact .map h0
 | _,_,.nilf,_,h => by cases h; exact .nilf
 | _,_,.func a b,_,h => by
  cases h with
  | func a1 b1 => exact .func (VRs.down hle a a1) (VRs.down hle b b1)
 | _,_,.yield h0,_,h => by
  cases h with
  | yield h1 => have := hle _ _ _ h0; rw [h1] at this; cases this; exact .yield h0
 | _,_,.nili,_,h => by cases h; exact .nili
 | _,_,.iface h0,_,h => by
  cases h with
  | iface h1 => exact .iface (VR.down hle h0 h1)
 | _,_,.iter h0,_,h => by
  cases h with
  | iter h1 => have := hle _ _ _ h0; rw [h1] at this; cases this; exact .iter h0
 | _,_,.hole _,_,h => by
  cases h with
  | hole h1 => exact .hole h1
 | _,_,.stamp h0,_,h => by
  cases h with
  | stamp h1 => have := hle _ _ _ h0; rw [h1] at this; cases this; exact .stamp h0
 | _,_,.agg a,_,h => by
  cases h with
  | agg a1 => exact .agg (VRs.down hle a a1)
 | _,_,.tup a,_,h => by
  cases h with
  | tup a1 => exact .tup (VRs.down hle a a1)
 | _,_,.any _,_,h => by
  cases h with
  | any hx => exact .any hx
theorem VRs.down {μ μ' : Mu} (hle : μ.le μ') : ∀ {v : List V} {x0 : List Value},VRs μ v x0 -> ∀ {x : List Value},VRs μ' v x -> VRs μ v x
 | _,_,.nil,_,h => by cases h; exact .nil
 | _,_,.cons a b,_,h => by
  cases h with
  | cons a1 b1 => exact .cons (VR.down hle a a1) (VRs.down hle b b1)
end
theorem DRs.down {μ μ' : Mu} (hle : μ.le μ') {D : List XDef} {ds0 : List Deferred} (h0 : DRs μ D ds0) : ∀ {ds : List Deferred},DRs μ' D ds -> DRs μ D ds := by
 induction h0 with
 | nil => intro ds h; cases h; exact .nil
 | call h _ ih => intro ds h'; cases h' with
  | call h1 hr1 => exact .call (h.down hle h1) (ih hr1)
 | coll h _ ih => intro ds h'; cases h' with
  | coll h1 hr1 => have := hle _ _ _ h; rw [h1] at this; cases this; exact .coll h (ih hr1)
def Sup (μ : Mu) (v : V) : Prop := closedV v = true \/ ∃ x,VR μ v x
theorem Sup.lift {μ μ' μ2 : Mu} {v : V} {x : Value} (hs : Sup μ v) (h1 : μ.le μ') (h2 : μ.le μ2) (hv : VR μ' v x) : VR μ2 v x := by
 rcases hs with hc | ⟨x0,h0⟩
 ·exact hv.closed v hc
 ·exact (h0.down h1 hv).mono h2
theorem closedVs_mem : ∀ {vs : List V},closedVs vs = true -> ∀ v ∈ vs,closedV v = true
 | [],_,v,hv => by cases hv
 | a :: vs,h,v,hv => by
  simp only [closedVs,Bool.and_eq_true] at h
  rcases List.mem_cons.1 hv with rfl | hv
  ·exact h.1
  ·exact closedVs_mem h.2 v hv
theorem closedV_cells {v : V} (h : closedV v = true) : ∀ c ∈ v.cellsOf,closedV c = true := by
 intro c hc
 cases v with
 | agg vs => simp only [closedV] at h; exact closedVs_mem h c hc
 | _ => simp only [V.cellsOf,List.mem_singleton] at hc; subst hc; exact h
theorem VRs.mem {μ : Mu} : ∀ {vs : List V} {xs : List Value},VRs μ vs xs -> ∀ v ∈ vs, ∃ x,VR μ v x
 | _,_,.nil,v,hv => by cases hv
 | _,_,.cons a b,v,hv => by
  rcases List.mem_cons.1 hv with rfl | hv
  ·exact ⟨_,a⟩
  ·exact VRs.mem b v hv
theorem mem_over {c : V} : ∀ {cs : List V} {i : Nat} {vs : List V},c ∈ over cs i vs -> c ∈ cs \/ c ∈ vs
 | cs,i,[],h => by rw [over_nil] at h; exact .inl h
 | [],i,v :: vs,h => by simp [over] at h
 | a :: cs,0,v :: vs,h => by
  simp only [over] at h
  rcases List.mem_cons.1 h with rfl | h
  ·exact .inr (List.mem_cons_self ..)
  ·exact (mem_over h).imp (List.mem_cons_of_mem _) (List.mem_cons_of_mem _)
 | a :: cs,i + 1,v :: vs,h => by
  simp only [over] at h
  rcases List.mem_cons.1 h with rfl | h
  ·exact .inl (List.mem_cons_self ..)
  ·exact (mem_over h).imp (List.mem_cons_of_mem _) id
theorem mem_fillV {c : V} : ∀ {ps : List (Nat × Nat × V)} {cs out : List V},fillV cs ps = some out -> c ∈ out -> c ∈ cs \/ ∃ p ∈ ps,c ∈ p.2.2.cellsOf
 | [],cs,out,h,hc => by simp only [fillV,Option.some.injEq] at h; subst h; exact .inl hc
 | (off,n,v) :: ps,cs,out,h,hc => by
  simp only [fillV] at h
  split at h <;> try (cases h; done)
  rcases mem_fillV h hc with h1 | ⟨p,hp,h1⟩
  ·rcases mem_over h1 with h2 | h2
   ·exact .inl h2
   ·exact .inr ⟨_,List.mem_cons_self ..,h2⟩
  ·exact .inr ⟨p,List.mem_cons_of_mem _ hp,h1⟩
def newObj (cs : List V) (esz : Nat) : XObj := .cells ⟨cs,0,[cs.length],false,esz,false⟩
def makeOf (op : XOp) (ρ : Rd) : Option ((Nat -> V) × XObj) :=
 match op with
 | .alloc zs => some (fun o => .ptr o 0 0,newObj zs 1)
 | .box x => some (fun o => .ptr o 0 0,newObj (ρ x).cellsOf 1)
 | .bslice esz zs ps n => match fillV zs (parts ρ ps) with
  | some cs => some (fun o => .slice o 0 0 n (.exact n),newObj cs esz)
  | none => none
 | .mkmap kd => some (fun o => .map o,.map kd [] 0)
 | .mkslice zs bytes l c => match asNat (ρ l),asNat (ρ c) with
  | some l,some c => match Nat.ble l c,Nat.ble (c * bytes) 140737488355328 with
   | true,true => some (fun o => .slice o 0 0 l (.exact c),newObj (repl c zs) zs.length)
   | _,_ => none
  | _,_ => none
 | _ => none
theorem ev_makeOf {op : XOp} {ρ : Rd} {f : Nat -> V} {xo : XObj} (hm : makeOf op ρ = some (f,xo)) (h : Heap) : oEv op ρ h = some (f h.next,h.push xo) := by
 cases op <;> simp only [makeOf] at hm <;> try (cases hm; done)
 case alloc => simp only [Option.some.injEq,Prod.mk.injEq] at hm; obtain ⟨rfl,rfl⟩ := hm; rfl
 case box => simp only [Option.some.injEq,Prod.mk.injEq] at hm; obtain ⟨rfl,rfl⟩ := hm; rfl
 case mkmap => simp only [Option.some.injEq,Prod.mk.injEq] at hm; obtain ⟨rfl,rfl⟩ := hm; rfl
 case bslice =>
  split at hm <;> simp at hm
  rename_i cs hf
  obtain ⟨rfl,rfl⟩ := hm
  simp only [oEv,hf]
  rfl
 case mkslice =>
  split at hm <;> try (simp at hm; done)
  rename_i l c h1 h2
  split at hm <;> simp at hm
  rename_i h3 h4
  obtain ⟨rfl,rfl⟩ := hm
  simp only [oEv,h1,h2,h3,h4]
  rfl
theorem makeOf_ev {i : Info} (hk : okMake i = true) {ρ : Rd} {h h1 : Heap} {v : V} (he : oEv i.step.op ρ h = some (v,h1)) : ∃ f xo,makeOf i.step.op ρ = some (f,xo) := by
 unfold okMake at hk
 cases hop : i.step.op <;> rw [hop] at hk he <;> simp only at hk <;> try (cases hk; done)
 case alloc => exact ⟨_,_,rfl⟩
 case box => exact ⟨_,_,rfl⟩
 case mkmap => exact ⟨_,_,rfl⟩
 case bslice =>
  simp only [oEv] at he
  split at he <;> simp at he
  rename_i cs hf
  exact ⟨_,_,by simp only [makeOf,hf]; rfl⟩
 case mkslice =>
  simp only [oEv] at he
  split at he <;> try (simp at he; done)
  rename_i l c h1 h2
  split at he <;> simp at he
  rename_i h3 h4
  exact ⟨_,_,by simp only [makeOf,h1,h2,h3,h4]; rfl⟩
theorem opd_agree {ns : List Nat} {t t' : Tr V} (h : ∀ y ∈ ns,sO t' y = sO t y) {x : Opd} (hx : opdOk ns x = true) : rd t' x = rd t x := by
 cases x with
 | slot i => exact h i (by simpa [opdOk] using hx)
 | const v => rfl
theorem makeOf_agree {i : Info} (hk : okMake i = true) {t t' : Tr V} (h : ∀ y ∈ i.names,sO t' y = sO t y) : makeOf i.step.op (rd t') = makeOf i.step.op (rd t) := by
 unfold okMake at hk
 cases hop : i.step.op <;> rw [hop] at hk <;> simp only at hk <;> try (cases hk; done)
 case alloc => rfl
 case mkmap => rfl
 case box x => simp only [makeOf,opd_agree h hk]
 case bslice esz zs ps n =>
  simp only [Bool.and_eq_true,List.all_eq_true] at hk
  have : parts (rd t') ps = parts (rd t) ps := by
   unfold parts
   refine List.map_congr_left fun p hp => ?_
   obtain ⟨a,b,x⟩ := p
   have := opd_agree h (hk.2 _ hp)
   simp only at this ⊢
   rw [this]
  simp only [makeOf,this]
 case mkslice zs b l c =>
  simp only [Bool.and_eq_true] at hk
  simp only [makeOf,opd_agree h hk.2.1,opd_agree h hk.2.2]
theorem opd_sup {μ : Mu} {ns : List Nat} {t : Tr V} (h : ∀ y ∈ ns, ∃ x,VR μ (sO t y) x) {x : Opd} (hx : opdOk ns x = true) : ∀ c ∈ (rd t x).cellsOf,Sup μ c := by
 intro c hc
 cases x with
 | slot i =>
  obtain ⟨y,hy⟩ := h i (by simpa [opdOk] using hx)
  exact .inr (hy.cells.mem c hc)
 | const v => exact .inl (closedV_cells hx c hc)
theorem repl_mem {c : V} {n : Nat} {zs : List V} (h : c ∈ repl n zs) : c ∈ zs := by
 unfold repl at h
 obtain ⟨l,hl,hc⟩ := List.mem_flatten.1 h
 rw [(List.mem_replicate.1 hl).2] at hc
 exact hc
theorem make_form {i : Info} (hk : okMake i = true) {μ : Mu} {t : Tr V} (h : ∀ y ∈ i.names, ∃ x,VR μ (sO t y) x) {f : Nat -> V} {xo : XObj} (hm : makeOf i.step.op (rd t) = some (f,xo)) :
  (∃ cs esz,xo = newObj cs esz /\ (∀ c ∈ cs,Sup μ c) /\ ((f = fun o => .ptr o 0 0) \/ ∃ l c,f = fun o => .slice o 0 0 l (.exact c))) \/ (∃ kd,xo = .map kd [] 0 /\ f = fun o => .map o) := by
 unfold okMake at hk
 cases hop : i.step.op <;> rw [hop] at hk hm <;> simp only at hk <;> try (cases hk; done)
 case alloc zs =>
  simp only [makeOf,Option.some.injEq,Prod.mk.injEq] at hm
  obtain ⟨rfl,rfl⟩ := hm
  exact .inl ⟨_,_,rfl,fun c hc => .inl (closedVs_mem hk c hc),.inl rfl⟩
 case box x =>
  simp only [makeOf,Option.some.injEq,Prod.mk.injEq] at hm
  obtain ⟨rfl,rfl⟩ := hm
  exact .inl ⟨_,_,rfl,opd_sup h hk,.inl rfl⟩
 case mkmap kd =>
  simp only [makeOf,Option.some.injEq,Prod.mk.injEq] at hm
  obtain ⟨rfl,rfl⟩ := hm
  exact .inr ⟨_,rfl,rfl⟩
 case bslice esz zs ps n =>
  simp only [Bool.and_eq_true,List.all_eq_true] at hk
  simp only [makeOf] at hm
  split at hm <;> simp at hm
  rename_i cs hf
  obtain ⟨rfl,rfl⟩ := hm
  refine .inl ⟨_,_,rfl,fun c hc => ?_,.inr ⟨_,_,rfl⟩⟩
  rcases mem_fillV hf hc with h1 | ⟨p,hp,h1⟩
  ·exact .inl (closedVs_mem hk.1 c h1)
  ·unfold parts at hp
   obtain ⟨q,hq,rfl⟩ := List.mem_map.1 hp
   exact opd_sup h (hk.2 q hq) c h1
 case mkslice zs b l c =>
  simp only [Bool.and_eq_true] at hk
  simp only [makeOf] at hm
  split at hm <;> try (simp at hm; done)
  split at hm <;> simp at hm
  obtain ⟨rfl,rfl⟩ := hm
  exact .inl ⟨_,_,rfl,fun c hc => .inl (closedVs_mem hk.1 c (repl_mem hc)),.inr ⟨_,_,rfl⟩⟩
section
variable [RoLim] {P : Program}
theorem Rel.below {K : Nat -> Prop} {w0 w w' : World} {μ : Mu} {h : Heap} (R : Rel P K w0 μ h w) (hb : Below w.heap.size w w') : Rel P K w0 μ h w' := by
 have hsame : ∀ o g l,μ o g = some l -> w'.heap[l.blk]? = w.heap[l.blk]? := fun o g l hm => hb.block _ (R.dom o g l hm).2
 refine ⟨fun o g l hm => ⟨(R.dom o g l hm).1,Nat.lt_of_lt_of_le (R.dom o g l hm).2 hb.size⟩,R.gens,fun o x hx => ⟨(R.obj o x hx).1,(R.obj o x hx).2.frame (Mu.le_refl μ) fun g l _ hm => hsame o g l hm⟩,fun o mo ins seen cur kd es ins' h1 h2 => ?_,R.apart,R.own,
  fun b hK => ⟨(R.kept b hK).1,(hb.block b (Nat.lt_of_lt_of_le (R.kept b hK).1 R.size)).trans (R.kept b hK).2⟩,hb.os.trans R.os,hb.tape.trans R.tape,hb.output.trans R.output,Nat.le_trans R.size hb.size,R.low⟩
 obtain ⟨i1,i2⟩ := R.iters o mo ins seen cur kd es ins' h1 h2
 refine ⟨i1,fun e => ?_⟩
 intro lm l es' clock hm hl hw
 rw [hsame _ _ _ hm] at hw
 obtain ⟨seen',a,b⟩ := i2 e lm l es' clock hm hl hw
 exact ⟨seen',(hsame _ _ _ hl).trans a,b⟩
theorem Rel.bare {K : Nat -> Prop} {w0 w : World} {μ : Mu} {h : Heap} (R : Rel P K w0 μ h w) : Rel P (fun c => c < w.heap.size) w μ ⟨.lf,h.next⟩ w := by
 have hn : ∀ o,(⟨.lf,h.next⟩ : Heap).get o = none := fun o => Tr.get_lf o
 have hl : ∀ o g, ¬ Live (⟨.lf,h.next⟩ : Heap) o g := fun o g ⟨x,e,_⟩ => by rw [hn] at e; cases e
 exact ⟨R.dom,(fun o g l x _ e => by rw [hn] at e; cases e),(fun o x e => by rw [hn] at e; cases e),(fun o mo ins seen cur kd es ins' e => by rw [hn] at e; cases e),(fun o g l o' g' l' e => absurd e (hl o g)),
  (fun o g l e => absurd e (hl o g)),(fun b hb => ⟨hb,rfl⟩),rfl,rfl,rfl,Nat.le_refl _,Nat.le_trans R.low R.size⟩
theorem Rel.weaker {K K' : Nat -> Prop} {w0 w : World} {μ : Mu} {h : Heap} (R : Rel P K w0 μ h w) (hK : ∀ b,K' b -> K b) : Rel P K' w0 μ h w :=
 ⟨R.dom,R.gens,R.obj,R.iters,R.apart,fun o g l hl hm => (R.own o g l hl hm).imp id fun hk hb => hk (hK _ hb),fun b hb => R.kept b (hK b hb),R.os,R.tape,R.output,R.size,R.low⟩
theorem Rel.adopt {KK : Nat -> Prop} {W w wE : World} {μ μ' μ2 : Mu} {h : Heap} (R : Rel P KK W μ2 h w) {o : Nat} {l : Loc} {xo : XObj} (h1 : μ.le μ') (h2 : μ.le μ2) (hlim : RoLim.lim <= l.blk) (hK : KK l.blk) (hW : W.heap[l.blk]? = wE.heap[l.blk]?)
  (hl : μ' o 0 = some l) (hor : OR P μ' wE o xo) (hform : (∃ cs esz,xo = newObj cs esz /\ ∀ c ∈ cs,Sup μ c) \/ ∃ kd,xo = .map kd [] 0) : Rel P (fun c => KK c /\ c ≠ l.blk) W (μ2.put h.next 0 l) (h.push xo) w := by
 have hkept := R.kept _ hK
 have hblk : w.heap[l.blk]? = wE.heap[l.blk]? := hkept.2.trans hW
 have hlt : l.blk < w.heap.size := Nat.lt_of_lt_of_le hkept.1 R.size
 have R3 : Rel P (fun c => KK c /\ c ≠ l.blk) W μ2 h w := R.weaker fun b hb => hb.1
 have hle : μ2.le (μ2.put h.next 0 l) := Mu.le_put _ (R.fresh 0)
 have hle2 : μ.le (μ2.put h.next 0 l) := Mu.le_trans h2 hle
 have hno : ∀ o' g' l',(μ2.put h.next 0 l) o' g' = some l' -> μ2 o' g' = some l' \/ (o' = h.next /\ g' = 0 /\ l' = l) := by
  intro o' g' l' hm
  by_cases e : o' = h.next /\ g' = 0
  ·obtain ⟨rfl,rfl⟩ := e
   rw [Mu.put_same] at hm
   cases hm
   exact .inr ⟨rfl,rfl,rfl⟩
  ·rw [Mu.put_other _ _ e] at hm
   exact .inl hm
 have hmine : Mine (fun c => KK c /\ c ≠ l.blk) μ2 h h.next l.blk := ⟨fun hb => hb.2 rfl,fun o' g' l' _ hlv hm e => by
  rcases R.own o' g' l' hlv hm with ⟨_,hr⟩ | hk
  ·omega
  ·rw [e] at hk; exact hk hK⟩
 have hgen0 : genX xo 0 := by
  rcases hform with ⟨cs,esz,rfl,_⟩ | ⟨kd,rfl⟩
  ·exact Nat.le_refl 0
  ·rfl
 refine R3.step h.next xo hle (fun o' => Heap.get_push ..) (Nat.le_succ _) (Nat.lt_succ_self _) (Nat.le_refl _) (fun b _ => .inl rfl) (fun o' g' l' hm => ?_) (fun g' l' _ hm => ?_) (fun g' l' hm => ?_) ?_ (fun oi mo ins seen cur kd es ins' q1 q2 q3 => ?_) rfl rfl rfl
 ·rcases hno _ _ _ hm with h1 | ⟨rfl,_,rfl⟩
  ·exact .inl h1
  ·exact .inr ⟨rfl,hlt⟩
 ·rcases hno _ _ _ hm with h1 | ⟨_,_,rfl⟩
  ·rw [R.fresh] at h1; cases h1
  ·exact hmine
 ·rcases hno _ _ _ hm with h1 | ⟨_,rfl,rfl⟩
  ·rw [R.fresh] at h1; cases h1
  ·exact hgen0
 ·rcases hform with ⟨cs,esz,rfl,hsup⟩ | ⟨kd,rfl⟩
  ·obtain ⟨a1,a2,_⟩ := hor
   refine ⟨fun g' L hL => ?_,by simp,fun g1 g2 M M' l1 l2 hM hM' m1 m2 _ => ?_⟩
   ·obtain ⟨rfl,rfl⟩ := lenOf_only rfl hL
    obtain ⟨l',arr,et,fz,q1,q2,q3,q4,q5,q6,q7⟩ := a1 0 cs.length hL
    rw [hl] at q1
    cases q1
    refine ⟨l,arr,et,fz,Mu.put_same ..,q2,hblk.trans q3,q4,q5,fun i v hi hv => ?_,q7⟩
    obtain ⟨x,x1,x2⟩ := q6 i v hi hv
    exact ⟨x,x1,(hsup v (List.mem_of_getElem? hv)).lift h1 hle2 x2⟩
   ·obtain ⟨rfl,rfl⟩ := lenOf_only rfl hM
    obtain ⟨rfl,rfl⟩ := lenOf_only rfl hM'
    rw [m1] at m2
    cases m2
    rfl
  ·obtain ⟨l',es',clock,q1,q2,q3⟩ := hor
   rw [hl] at q1
   cases q1
   have he : es' = #[] := by
    have := q3.size
    simp at this
    first | exact this | (exact Array.eq_empty_of_size_eq_zero this.symm) | (exact Array.eq_empty_of_size_eq_zero this)
   subst he
   exact ⟨l, #[],clock,Mu.put_same ..,hblk.trans q2,⟨by simp,fun n v q => by simp [hasKey] at q,rfl,by simp,by simp,by simp,by simp,by simp⟩⟩
 ·rw [Heap.get_push] at q1 q2
  rcases hform with ⟨cs,esz,rfl,_⟩ | ⟨kd',rfl⟩
  ·rcases q3 with rfl | rfl
   ·rw [if_pos rfl] at q1; cases q1
   ·rw [if_pos rfl] at q2; cases q2
  ·rcases q3 with rfl | rfl
   ·rw [if_pos rfl] at q1; cases q1
   ·by_cases e : oi = h.next
    ·rw [if_pos e] at q1; cases q1
    ·rw [if_neg e] at q1
     obtain ⟨l1,hl1,lm,hlm,_⟩ := (R.obj oi _ q1).2
     rw [R.fresh] at hlm
     cases hlm
def Later (P : Program) (ih : Task -> Option Out) (rnd : Option Nat) (I : Info) (v : V) (B : Nat -> Prop) (μ : Mu) (wE : World) (x : Value) (ts : Tr V) : Prop :=
 ∀ (t' : Tr V) (d' : List XDef) (h' : Heap) (d1 : List XDef) (h1 : Heap),(∀ y ∈ I.names,sO t' y = sO ts y) -> runStep ih I.step rnd t' d' h' = some (v,d1,h1) ->
 ∀ (KK : Nat -> Prop) (W : World) (μ2 : Mu) (w : World),μ.le μ2 -> (∀ c,B c -> KK c /\ W.heap[c]? = wE.heap[c]?) -> Rel P KK W μ2 h' w ->
  ∃ μ3,μ2.le μ3 /\ d1 = d' /\ Rel P (fun c => KK c /\ ¬ B c) W μ3 h1 w /\ VR μ3 v x
theorem Later.mono {ih : Task -> Option Out} {rnd : Option Nat} {I : Info} {v : V} {B : Nat -> Prop} {μ μ' : Mu} {wE : World} {x : Value} {ts : Tr V} (h : Later P ih rnd I v B μ wE x ts) (hle : μ.le μ') : Later P ih rnd I v B μ' wE x ts :=
 fun t' d' h' d1 h1 ha hr KK W μ2 w hm => h t' d' h' d1 h1 ha hr KK W μ2 w (Mu.le_trans hle hm)
omit [RoLim] in
theorem run_made {ih : Task -> Option Out} {rnd : Option Nat} {i : Info} (hk : okMake i = true) {t : Tr V} {d d1 : List XDef} {h h1 : Heap} {v : V} (hr : runStep ih i.step rnd t d h = some (v,d1,h1)) :
  d1 = d /\ ((wantedV t i.step.guard = some false /\ v = .undef /\ h1 = h) \/ (wantedV t i.step.guard = some true /\ oEv i.step.op (rd t) h = some (v,h1))) := by
 unfold runStep at hr
 split at hr
 ·cases hr
 ·rename_i hw
  simp only [Option.some.injEq,Prod.mk.injEq] at hr
  obtain ⟨rfl,rfl,rfl⟩ := hr
  exact ⟨rfl,.inl ⟨hw,rfl,rfl⟩⟩
 ·rename_i hw
  have main : (match oEv i.step.op (rd t) h with | some (v,h) => some (v,d,h) | none => none) = some (v,d1,h1) -> d1 = d /\ ((wantedV t i.step.guard = some false /\ v = .undef /\ h1 = h) \/ (wantedV t i.step.guard = some true /\ oEv i.step.op (rd t) h = some (v,h1))) := by
   intro hr
   split at hr <;> simp at hr
   rename_i v' h' he
   obtain ⟨rfl,rfl,rfl⟩ := hr
   exact ⟨rfl,.inr ⟨hw,he⟩⟩
  simp only at hr
  split at hr
  ·rename_i f args e; simp [okMake,e] at hk
  ·rename_i f args e; simp [okMake,e] at hk
  ·rename_i it e; simp [okMake,e] at hk
  ·rename_i x rows args e; simp [okMake,e] at hk
  ·exact main hr
theorem early {n : Nat} {ops : Array Oper} {ih : Task -> Option Out} {rnd : Option Nat} {I : Info} {op : Oper} (hop : Of P n ops I op) (hk : okMake I = true) {ts : Tr V} {dm d1 : List XDef} {hm h1 : Heap} {v : V} (hrun : runStep ih I.step rnd ts dm hm = some (v,d1,h1))
  {KK : Nat -> Prop} {W w : World} {μ : Mu} {h : Heap} (R : Rel P KK W μ h w) {b' : Frame} {a : Act} {k : List Item} {cs : List Frame} {rest : List Nat} {d : List XDef} (hr : RndR μ rnd b'.roundOf) (hnames : ∀ x ∈ names ops op,VR μ (sO ts x) (a.tmps.getD x undef)) (hd : DRs μ d a.defers) :
  ∃ (B : Nat -> Prop) (wE : World) (x : Value) (ds : List Deferred),Steps P (lone (fat b' a (.inRegion ops (I.n :: rest) :: k)) cs w) (lone (fat b' (({ a with defers := ds } : Act).put op.dst x) (.inRegion ops rest :: k)) cs wE) /\ DRs μ d ds /\
   (∀ c,B c -> w.heap.size <= c /\ c < wE.heap.size) /\ Below w.heap.size w wE /\ Rel P (fun c => KK c \/ B c) wE μ h wE /\ Later P ih rnd I v B μ wE x ts := by
 have R0 := R.bare
 have keepB : ∀ (B : Nat -> Prop) (wE : World),(∀ c,B c -> w.heap.size <= c /\ c < wE.heap.size) -> Below w.heap.size w wE -> Rel P (fun c => KK c \/ B c) wE μ h wE := by
  intro B wE hB hb
  refine (R.below hb).keep _ (fun c hc => ?_) (fun o g l hl hm' => ?_)
  ·rcases hc with hc | hc
   ·have := (R.kept c hc).1; have := R.size; have := hb.size; omega
   ·exact (hB c hc).2
  ·refine (R.own o g l hl hm').imp id fun hnk hc => ?_
   rcases hc with hc | hc
   ·exact hnk hc
   ·have := (hB _ hc).1; have := (R.dom o g l hm').2; omega
 obtain ⟨rfl,hcase⟩ := run_made hk hrun
 rcases hcase with ⟨hw,rfl,rfl⟩ | ⟨hw,he⟩
 ·-- it is skipped
  have hs : StepWP P I.step rnd ts d ⟨.lf,h.next⟩ fun v' d' h' => v' = .undef /\ d' = d /\ h' = ⟨.lf,h.next⟩ := step_skipped hw ⟨rfl,rfl,rfl⟩
  obtain ⟨v',d',h',μ',ds,x,wE,⟨rfl,rfl,rfl⟩,r1,r2,r3⟩ := hs _ w μ w b' a k cs ops I.n rest op n hop.comp hop.at_ hr R0 hnames hd
  have hb : Below w.heap.size w wE := ⟨r1.rel.os,r1.rel.tape,r1.rel.output,r1.rel.size,fun c hc => (r1.rel.kept c hc).2⟩
  refine ⟨fun _ => False,wE,x,ds,r3,hd.down r1.le r2,fun c hc => hc.elim,hb,(keepB _ wE (fun c hc => hc.elim) hb),?_⟩
  intro t' d' h' d1 h1 hag hrun' KK2 W2 μ2 w2 hle hB R2
  obtain ⟨rfl,hcase⟩ := run_made hk hrun'
  have hww := wanted_agree hop hag
  rcases hcase with ⟨_,_,rfl⟩ | ⟨hw',_⟩
  ·exact ⟨μ2,Mu.le_refl _,rfl,R2.weaker fun b hb => hb.1,by have := r1.val; cases this with | tup q => cases q; exact .tup .nil⟩
  ·rw [hww,hw] at hw'; cases hw'
 ·obtain ⟨f,xo,hmk⟩ := makeOf_ev hk he
  have hv : v = f hm.next := by
   have := ev_makeOf hmk hm
   rw [he] at this
   simp only [Option.some.injEq,Prod.mk.injEq] at this
   exact this.1
  have hs : StepWP P I.step rnd ts d ⟨.lf,h.next⟩ fun v' d' h' => v' = f h.next /\ d' = d /\ h' = (⟨.lf,h.next⟩ : Heap).push xo := step_op hw (ev_makeOf hmk _) ⟨rfl,rfl,rfl⟩
  obtain ⟨v',d',h',μ',ds,x,wE,⟨rfl,rfl,rfl⟩,r1,r2,r3⟩ := hs _ w μ w b' a k cs ops I.n rest op n hop.comp hop.at_ hr R0 hnames hd
  have hb : Below w.heap.size w wE := ⟨r1.rel.os,r1.rel.tape,r1.rel.output,r1.rel.size,fun c hc => (r1.rel.kept c hc).2⟩
  have hsup : ∀ y ∈ I.names, ∃ x,VR μ (sO ts y) x := fun y hy => ⟨_,hnames y (by rw [<- hop.names]; exact hy)⟩
  have hform := make_form hk hsup hmk
  have hgx : ((⟨.lf,h.next⟩ : Heap).push xo).get h.next = some xo := by rw [Heap.get_push]; exact if_pos rfl
  -- where it lies
  have hloc : ∃ l,μ' h.next 0 = some l /\ ∀ (μ3 : Mu) (o : Nat),μ3 o 0 = some l -> VR μ3 (f o) x := by
   have hval := r1.val
   rcases hform with ⟨cs',esz,_,_,hf | ⟨l0,c0,hf⟩⟩ | ⟨kd,_,hf⟩
   ·subst hf
    cases hval with
    | ptr hl => exact ⟨_,hl,fun μ3 o h3 => .ptr h3⟩
   ·subst hf
    cases hval with
    | exact hl a' ha hc => exact ⟨_,hl,fun μ3 o h3 => .exact h3 a' ha hc⟩
   ·subst hf
    cases hval with
    | map hl => exact ⟨_,hl,fun μ3 o h3 => .map h3⟩
  obtain ⟨l,hl,hval⟩ := hloc
  have hlive : Live ((⟨.lf,h.next⟩ : Heap).push xo) h.next 0 := by
   refine ⟨xo,hgx,?_⟩
   rcases hform with ⟨cs',esz,rfl,_⟩ | ⟨kd,rfl,_⟩
   ·exact ⟨cs'.length,rfl⟩
   ·rfl
  have hge : w.heap.size <= l.blk := by
   rcases r1.rel.own _ _ _ hlive hl with ⟨⟨x,hx,hr⟩,_⟩ | hk'
   ·rw [hgx] at hx
    cases hx
    rcases hform with ⟨cs',esz,rfl,_⟩ | ⟨kd,rfl,_⟩
    ·exact Bool.noConfusion (show false = true from hr)
    ·exact hr.elim
   ·exact Nat.le_of_not_lt hk'
  have hltE := (r1.rel.dom _ _ _ hl).2
  have hB : ∀ c,c = l.blk -> w.heap.size <= c /\ c < wE.heap.size := fun c hc => by subst hc; exact ⟨hge,hltE⟩
  refine ⟨fun c => c = l.blk,wE,x,ds,r3,hd.down r1.le r2,hB,hb,keepB _ wE hB hb,?_⟩
  intro t' d' h' d1 h1 hag hrun' KK2 W2 μ2 w2 hle hKB R2
  obtain ⟨rfl,hcase⟩ := run_made hk hrun'
  have hww := wanted_agree hop hag
  rcases hcase with ⟨hw',_,_⟩ | ⟨_,he'⟩
  ·rw [hww,hw] at hw'; cases hw'
  ·have hmk' : makeOf I.step.op (rd t') = some (f,xo) := (makeOf_agree hk hag).trans hmk
   have := ev_makeOf hmk' h'
   rw [he'] at this
   simp only [Option.some.injEq,Prod.mk.injEq] at this
   obtain ⟨e1,e2⟩ := this
   subst e2
   have hKB := hKB l.blk rfl
   refine ⟨μ2.put h'.next 0 l,Mu.le_put _ (R2.fresh 0),rfl,R2.adopt r1.le hle (Nat.le_trans (Nat.le_trans R.low R.size) hge) hKB.1 hKB.2 hl (r1.rel.obj _ _ hgx).2 ?_,?_⟩
   ·rcases hform with ⟨cs',esz,q1,q2,_⟩ | ⟨kd,q1,_⟩
    ·exact .inl ⟨cs',esz,q1,q2⟩
    ·exact .inr ⟨kd,q1⟩
   ·rw [e1]
    exact hval _ _ (Mu.put_same ..)
end
end Go.Xr
