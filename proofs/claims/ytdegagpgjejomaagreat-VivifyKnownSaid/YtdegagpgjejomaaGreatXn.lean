/- X's ranges, bounds and the rest are the machine's. -/
import Derived.Test.YtdegagpgjejomaaGreatXm
namespace Go.Xr
open Go.RowKit
section
variable [RoLim] {P : Program} {K : Nat → Prop} {w0 : World} {μ μ' : Mu} {h h' : Heap} {w w' : World} {ρ : Rd} {ρ' : Operand → Value}

theorem op_range_nil (R : Rel P K w0 μ h w) {t e : TypeId} {kd : IntKind} {xo : Operand} (hm : mapOf P t = some (kd, e)) (hx : VR μ .nilm (ρ' xo)) {o : Oper} (ho : o.op = .range t xo) :
    Res P K w0 μ ((execOp ρ' o).run P w) (.iter h.next) (h.push (.miter none 0 [] none)) := by
  obtain ⟨kt, h1, h2⟩ := mapOf_some hm
  generalize hx' : ρ' xo = x' at hx
  cases hx
  refine ⟨_, .pointer (some ⟨w.heap.size, 0, none⟩), w.alloc (.mapIter none 0 #[] 0), _, ?_, .inl rfl, Mu.le_put ⟨w.heap.size, 0, 0, 1⟩ (R.fresh 0), R.push (w' := w.alloc (.mapIter none 0 #[] 0)) (.miter none 0 [] none) ⟨w.heap.size, 0, 0, 1⟩ rfl rfl rfl rfl rfl rfl ?_ (fun _ _ _ _ _ _ _ q => by cases q), VR.iter (Mu.put_same ..)⟩
  · unfold execOp
    rw [ho]
    simp only [hx', Instr.range, Sem.run_bind, run_und h1, Result.andThen_ok]
    rfl
  · exact ⟨_, Mu.put_same .., 0, #[], 0, (by show (w.heap.push _)[w.heap.size]? = _; simp)⟩

theorem op_range (R : Rel P K w0 μ h w) {t e : TypeId} {kd k : IntKind} {xo : Operand} {om : Nat} {es : List (Int × V)} {ins : Nat} (hm : mapOf P t = some (kd, e)) (hx : VR μ (.map om) (ρ' xo)) (hg : h.get om = some (.map k es ins)) {o : Oper} (ho : o.op = .range t xo) :
    Res P K w0 μ ((execOp ρ' o).run P w) (.iter h.next) (h.push (.miter (some om) ins [] none)) := by
  obtain ⟨kt, h1, h2⟩ := mapOf_some hm
  obtain ⟨l, es', clock, hl, hb, hmr⟩ := R.mapAt hg
  generalize hx' : ρ' xo = x' at hx
  cases hx with
  | @map _ l2 hl2 =>
    rw [hl] at hl2
    cases hl2
    have hobj := run_getObj (P := P) hb (fun _ _ _ q => by cases q)
    have hltb := (R.dom _ _ _ hl).2
    have hnew : (w.alloc (.mapIter (some l.blk) clock #[] clock)).heap[w.heap.size]? = some (.mapIter (some l.blk) clock #[] clock) := by show (w.heap.push _)[w.heap.size]? = _; simp
    refine ⟨_, .pointer (some ⟨w.heap.size, 0, none⟩), w.alloc (.mapIter (some l.blk) clock #[] clock), _, ?_, .inl rfl, Mu.le_put ⟨w.heap.size, 0, 0, 1⟩ (R.fresh 0),
      R.push (w' := w.alloc (.mapIter (some l.blk) clock #[] clock)) (.miter (some om) ins [] none) ⟨w.heap.size, 0, 0, 1⟩ rfl rfl rfl rfl rfl rfl ?_ (fun mo ins2 seen cur kd2 es2 ins' q1 q2 => ?_), VR.iter (Mu.put_same ..)⟩
    · unfold execOp
      rw [ho]
      simp only [hx', Instr.range, Sem.run_bind, run_und h1, Result.andThen_ok, hobj]
      rfl
    · exact ⟨_, Mu.put_same .., l, Mu.le_put _ (R.fresh 0) _ _ _ hl, clock, #[], clock, hnew⟩
    · cases q1
      rw [hg] at q2
      cases q2
      refine ⟨Nat.le_refl _, fun _ => ?_⟩
      intro lm li es'' clock'' hlm hli hw
      rw [Mu.le_put _ (R.fresh 0) _ _ _ hl] at hlm
      cases hlm
      rw [Mu.put_same] at hli
      cases hli
      have hb2 : (w.alloc (.mapIter (some l.blk) clock #[] clock)).heap[l.blk]? = some (.map es' clock) := by
        show (w.heap.push _)[l.blk]? = _
        rw [Array.getElem?_push, if_neg (by omega)]
        exact hb
      rw [hb2] at hw
      cases hw
      exact ⟨#[], hnew, fun e1 _ n _ => by simp, fun k q => by cases q⟩

omit [RoLim] in
theorem find_born {es' : List MapEntry} {st : Nat} {e : MapEntry} (he : e ∈ es') (hs : e.born = st) : ∃ e1, es'.find? (·.born == st) = some e1 ∧ e1 ∈ es' ∧ e1.born = st := by
  cases hf : es'.find? (·.born == st) with
  | none =>
    rw [List.find?_eq_none] at hf
    have := hf e he
    simp [hs] at this
  | some e1 => exact ⟨e1, rfl, List.mem_of_find?_eq_some hf, by simpa using List.find?_some hf⟩

theorem op_entry (R : Rel P K w0 μ h w) {xo : Operand} {oi mo ins : Nat} {seen : List Int} {k : Int} {kd : IntKind} {es : List (Int × V)} {v : V} (hx : VR μ (.iter oi) (ρ' xo)) (hgi : h.get oi = some (.miter (some mo) ins seen (some k))) (hgm : h.get mo = some (.map kd es ins))
    (hk : hasKey k es = some v) {o : Oper} (ho : o.op = .entry xo) : Res P K w0 μ ((execOp ρ' o).run P w) (.tup [.int kd k, v]) h := by
  obtain ⟨l, es', clock, hl, hb, hmr⟩ := R.mapAt hgm
  generalize hx' : ρ' xo = x' at hx
  cases hx with
  | @iter _ li hli =>
    obtain ⟨seen', s1, s2, s3⟩ := (R.iters oi mo ins seen (some k) kd es ins hgi hgm).2 rfl l li es' clock hl hli hb
    obtain ⟨st, t1, t2⟩ := s3 k rfl
    obtain ⟨e0, e1, e2⟩ := hmr.back k v hk
    obtain ⟨ef, f1, f2, f3⟩ := find_born e1 ((t2 e0 e1).2 e2)
    obtain ⟨n, y, g1, g2, g3⟩ := hmr.there ef f2
    rw [(t2 ef f2).1 f3] at g1
    cases g1
    rw [hk] at g2
    cases g2
    refine Res.same (x := .tuple #[.int kd k, ef.val]) ?_ R (VR.tup (.cons (.int ..) (.cons g3 .nil)))
    have h1 := run_getObj (P := P) s1 (fun _ _ _ q => by cases q)
    have h2 := run_getObj (P := P) hb (fun _ _ _ q => by cases q)
    have f1' : Array.find? (fun x => x.born == st) es' = some ef := by rw [← f1]; simp
    unfold execOp
    rw [ho]
    simp only [hx', Instr.entry, Sem.run_bind, h1, Result.andThen_ok, t1, h2, bne_self_eq_false, Bool.false_eq_true, if_false, f1', (t2 ef f2).1 f3]
    rfl

omit [RoLim] in
theorem mem_leftOf {seen : List Int} {p : Int × V} : ∀ {es : List (Int × V)}, (p ∈ leftOf seen es ↔ p ∈ es ∧ p.1 ∉ seen)
  | [] => by simp [leftOf]
  | (k, v) :: r => by
    simp only [leftOf]
    by_cases hs : k ∈ seen
    · have : (seen.any fun a => decide (a = k)) = true := by rw [List.any_eq_true]; exact ⟨k, hs, by simp⟩
      simp only [this, List.mem_cons, mem_leftOf]
      constructor
      · rintro ⟨h1, h2⟩; exact ⟨.inr h1, h2⟩
      · rintro ⟨rfl | h1, h2⟩
        · exact absurd hs h2
        · exact ⟨h1, h2⟩
    · have : (seen.any fun a => decide (a = k)) = false := by
        rw [Bool.eq_false_iff]
        intro q
        rw [List.any_eq_true] at q
        obtain ⟨a, h1, h2⟩ := q
        simp at h2
        subst h2
        exact hs h1
      simp only [this, List.mem_cons, mem_leftOf]
      constructor
      · rintro (rfl | ⟨h1, h2⟩)
        · exact ⟨.inl rfl, hs⟩
        · exact ⟨.inr h1, h2⟩
      · rintro ⟨rfl | h1, h2⟩
        · exact .inl rfl
        · exact .inr ⟨h1, h2⟩

theorem op_next_nil (R : Rel P K w0 μ h w) {xo : Operand} {oi ins : Nat} {seen : List Int} {cur : Option Int} (hx : VR μ (.iter oi) (ρ' xo)) (hg : h.get oi = some (.miter none ins seen cur)) {o : Oper} (ho : o.op = .next xo false) : Res P K w0 μ ((execOp ρ' o).run P w) (.tup [.bool false]) h := by
  obtain ⟨l, hl, s, se, st, hb⟩ := (R.obj oi _ hg).2
  generalize hx' : ρ' xo = x' at hx
  cases hx with
  | @iter _ li hli =>
    rw [hl] at hli
    cases hli
    have h1 := run_getObj (P := P) hb (fun _ _ _ q => by cases q)
    refine Res.same (x := .tuple #[.bool false]) ?_ R (VR.tup (.cons (.bool _) .nil))
    unfold execOp
    rw [ho]
    simp only [hx', Instr.next, Sem.run_bind, h1, Result.andThen_ok]
    rfl

/-- One step of a range over a map: it is over where no key is left; else some key that is left comes. -/
theorem op_next (R : Rel P K w0 μ h w) {xo : Operand} {oi mo ins : Nat} {seen : List Int} {cur : Option Int} {kd : IntKind} {es : List (Int × V)} (hx : VR μ (.iter oi) (ρ' xo)) (hgi : h.get oi = some (.miter (some mo) ins seen cur)) (hgm : h.get mo = some (.map kd es ins))
    {o : Oper} (ho : o.op = .next xo false) :
    (leftOf seen es = [] ∧ Res P K w0 μ ((execOp ρ' o).run P w) (.tup [.bool false]) h) ∨
      ∃ k v, (k, v) ∈ leftOf seen es ∧ Res P K w0 μ ((execOp ρ' o).run P w) (.tup [.bool true, .int kd k, v]) (h.put oi (.miter (some mo) ins (k :: seen) (some k))) := by
  obtain ⟨l, es', clock, hl, hb, hmr⟩ := R.mapAt hgm
  generalize hx' : ρ' xo = x' at hx
  cases hx with
  | @iter _ li hli =>
    obtain ⟨seen', s1, s2, s3⟩ := (R.iters oi mo ins seen cur kd es ins hgi hgm).2 rfl l li es' clock hl hli hb
    have h1 := run_getObj (P := P) s1 (fun _ _ _ q => by cases q)
    have h2 := run_getObj (P := P) hb (fun _ _ _ q => by cases q)
    have hguard : (!seen'.isEmpty && !es'.isEmpty && es'.all (fun e => decide (e.born ≥ clock))) = false := by
      cases he : es'.isEmpty with
      | true => simp
      | false =>
        have hne : es'.toList ≠ [] := by
          intro q
          have : es' = #[] := by simpa using q
          rw [this] at he
          simp at he
        obtain ⟨e0, he0⟩ := List.exists_mem_of_ne_nil _ hne
        have hy := hmr.young e0 he0
        have : es'.all (fun e => decide (e.born ≥ clock)) = false := by
          rw [Bool.eq_false_iff]
          intro q
          rw [Array.all_eq_true_iff_forall_mem] at q
          have := q e0 (by simpa using he0)
          simp at this
          omega
        rw [this]
        simp
    -- what is left
    generalize hleft : es'.filter (fun e => !seen'.contains e.born) = left at *
    have hold : left.filter (fun e => decide (e.born < clock)) = left := by
      rw [Array.filter_eq_self]
      intro e he
      rw [← hleft, Array.mem_filter] at he
      have := hmr.young e (by simpa using he.1)
      simpa using this
    have hnew : left.filter (fun e => decide (e.born ≥ clock)) = #[] := by
      rw [Array.filter_eq_empty_iff]
      intro e he
      rw [← hleft, Array.mem_filter] at he
      have := hmr.young e (by simpa using he.1)
      simp
      omega
    have hmem : ∀ e ∈ left.toList, ∃ n v, e.key = .int kd n ∧ (n, v) ∈ leftOf seen es ∧ VR μ v e.val ∧ e ∈ es'.toList := by
      intro e he
      have he' : e ∈ left := by simpa using he
      rw [← hleft, Array.mem_filter] at he'
      have he2 : e ∈ es'.toList := by simpa using he'.1
      obtain ⟨n, v, g1, g2, g3⟩ := hmr.there e he2
      refine ⟨n, v, g1, mem_leftOf.2 ⟨hasKey_mem g2, fun q => ?_⟩, g3, he2⟩
      have := (s2 e he2 n g1).2 q
      have h3 := he'.2
      rw [this] at h3
      cases h3
    have hempty : left.isEmpty = true → leftOf seen es = [] := by
      intro q
      have ql : left = #[] := by simpa using q
      rw [List.eq_nil_iff_forall_not_mem]
      rintro ⟨n, v⟩ hnv
      obtain ⟨g1, g2⟩ := mem_leftOf.1 hnv
      obtain ⟨e, g3, g4⟩ := hmr.back n v (hasKey_of_mem hmr.sorted g1)
      have : e ∈ left := by
        rw [← hleft, Array.mem_filter]
        refine ⟨by simpa using g3, ?_⟩
        cases hc : seen'.contains e.born with
        | false => rfl
        | true => exact absurd ((s2 e g3 n g4).1 hc) g2
      rw [ql] at this
      simp at this
    -- the run
    have hrun : ∀ (i : Nat) (w1 : World) (c : Option MapEntry), (choose (.mapNext ((if left.isEmpty then #[none] else #[]) ++ (left ++ (#[] : Array MapEntry)).map some).size)).run P w = .ok i w1 →
        ((if left.isEmpty then #[none] else #[]) ++ (left ++ (#[] : Array MapEntry)).map some)[i]? = some c →
        (Instr.next (.pointer (some ⟨li.blk, 0, none⟩)) false o.type).run P w = (match c with
          | some e => ((setObj li.blk (.mapIter (some l.blk) clock (seen'.push e.born) clock)).run P w1).andThen fun _ w2 => .ok (.tuple #[.bool true, e.key, e.val]) w2
          | none => .ok (.tuple #[.bool false]) w1) := by
      intro i w1 c q1 q2
      unfold Instr.next
      simp only [Sem.run_bind, h1, Result.andThen_ok, h2, hguard, Bool.false_eq_true, if_false, hleft, hold, hnew, q1, q2]
      cases c with
      | none => rfl
      | some e =>
        show Sem.run P (setObj li.blk (Obj.mapIter (some l.blk) clock (seen'.push e.born) clock) >>= fun _ => pure (Value.tuple #[Value.bool true, e.key, e.val])) w1 = _
        rw [Sem.run_bind]
        rfl
    by_cases hl0 : left.isEmpty = true
    · refine .inl ⟨hempty hl0, ?_⟩
      have ql : left = #[] := by simpa using hl0
      have q := hrun 0 w none (by rw [ql, run_choose]; simp [Question.forced]) (by rw [ql]; simp)
      exact Res.same (x := .tuple #[.bool false]) (by unfold execOp; rw [ho]; simp only [hx', Sem.run_bind, q]; rfl) R (VR.tup (.cons (.bool _) .nil))
    · have hf : left.isEmpty = false := by simpa using hl0
      have hcand : ((if left.isEmpty then #[none] else #[]) ++ (left ++ (#[] : Array MapEntry)).map some) = left.map some := by rw [hf]; simp
      have hpos : 0 < left.size := by
        rcases Nat.eq_zero_or_pos left.size with q | q
        · have : left = #[] := Array.eq_empty_of_size_eq_zero q
          rw [this] at hf
          simp at hf
        · exact q
      -- the choice
      have hchoice : ∃ i w1, (choose (.mapNext (left.map some).size)).run P w = .ok i w1 ∧ i < left.size ∧ w1.heap = w.heap ∧ w1.os = w.os ∧ w1.tape = w.tape ∧ w1.output = w.output := by
        rw [run_choose]
        by_cases hfo : (Question.mapNext (left.map some).size).forced = true
        · exact ⟨0, w, by rw [if_pos hfo], hpos, rfl, rfl, rfl, rfl⟩
        · refine ⟨(Question.mapNext (left.map some).size).cut (w.tape w.drawn (.mapNext (left.map some).size)), { w with drawn := w.drawn + 1 }, by rw [if_neg hfo], ?_, rfl, rfl, rfl, rfl⟩
          simp only [Question.cut, Array.size_map]
          exact Nat.mod_lt _ hpos
      obtain ⟨i, w1, c1, c2, c3, c4, c5, c6⟩ := hchoice
      have hel : (left.map some)[i]? = some (some left[i]) := by simp [c2]
      have q := hrun i w1 (some left[i]) (by rw [hcand]; exact c1) (by rw [hcand]; exact hel)
      obtain ⟨n, v, g1, g2, g3, g4⟩ := hmem left[i] (by simp)
      refine .inr ⟨n, v, g2, ?_⟩
      have R1 := R.drawn c3 c4 c5 c6
      have s1' : w1.heap[li.blk]? = some (.mapIter (some l.blk) clock seen' clock) := by rw [c3]; exact s1
      have hset := run_setObj (P := P) (o' := .mapIter (some l.blk) clock (seen'.push left[i].born) clock) s1' (fun _ _ _ q => by cases q)
      simp only [hset, Result.andThen_ok] at q
      have hltb := (R1.dom _ _ _ hli).2
      have hne : l.blk ≠ li.blk := by
        intro q2
        rw [q2, s1] at hb
        cases hb
      have hb1 : w1.heap[l.blk]? = some (.map es' clock) := by rw [c3]; exact hb
      refine ⟨μ, .tuple #[.bool true, left[i].key, left[i].val], { w1 with heap := w1.heap.setIfInBounds li.blk (.mapIter (some l.blk) clock (seen'.push left[i].born) clock) }, _, ?_, .inl rfl, Mu.le_refl μ,
        R1.turn hgi rfl (by simp [roX]) (fun g q => q) (fun g q => q) hli ⟨li, hli, l, hl, clock, _, clock, set_at hltb⟩ (fun oi2 mo2 ins2 seen2 cur2 kd2 es2 ins3 p1 p2 p3 => ?_), ?_⟩
      · unfold execOp
        rw [ho]
        simp only [hx', Sem.run_bind, q, Result.andThen_ok]
        rfl
      · rw [Heap.get_put] at p1 p2
        have hmo : mo2 ≠ oi := by
          intro e
          rw [if_pos e] at p2
          cases p2
        have hoi : oi2 = oi := p3.resolve_right hmo
        rw [if_pos hoi] at p1
        rw [if_neg hmo] at p2
        cases p1
        subst hoi
        rw [hgm] at p2
        cases p2
        refine ⟨Nat.le_refl _, fun _ => ?_⟩
        intro lm lj es'' clock'' hlm hlj hw
        rw [hl] at hlm
        cases hlm
        rw [hli] at hlj
        cases hlj
        rw [set_other hne, hb1] at hw
        cases hw
        have hinj : ∀ e ∈ es'.toList, (e.born = left[i].born ↔ e.key = left[i].key) := by
          intro e he
          obtain ⟨a, ha⟩ := List.getElem?_of_mem he
          obtain ⟨b, hb'⟩ := List.getElem?_of_mem g4
          by_cases hab : a = b
          · subst hab
            rw [ha] at hb'
            cases hb'
            simp
          · have k1 := pairwise_at (fun a b h => fun q => h q.symm) hmr.keys ha hb' hab
            have k2 := pairwise_at (fun a b h => fun q => h q.symm) hmr.stamps ha hb' hab
            exact ⟨fun q => absurd q k2, fun q => absurd q k1⟩
        refine ⟨_, set_at hltb, fun e he n' hn' => ?_, fun k' hk' => ?_⟩
        · rw [Array.contains_push]
          have h3 := s2 e he n' hn'
          have h4 := hinj e he
          rw [hn', g1] at h4
          simp only [Bool.or_eq_true, beq_iff_eq, List.mem_cons]
          rw [h3, h4]
          constructor
          · rintro (q | q)
            · exact .inr q
            · injection q with _ q; exact .inl q
          · rintro (rfl | q)
            · exact .inr rfl
            · exact .inl q
        · cases hk'
          refine ⟨left[i].born, by simp, fun e he => ?_⟩
          rw [hinj e he, g1]
      · exact VR.tup (.cons (.bool _) (.cons (by rw [g1]; exact .int ..) (.cons g3 .nil)))
end
end Go.Xr
