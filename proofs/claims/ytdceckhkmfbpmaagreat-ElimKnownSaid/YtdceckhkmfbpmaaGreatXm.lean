/- X's operations on maps and iterators are the machine's. -/
import Derived.Test.YtdceckhkmfbpmaaGreatXl
namespace Go.Xr
open Go.RowKit
section
variable {P : Program} {K : Nat → Prop} {w0 : World} {μ μ' : Mu} {h h' : Heap} {w w' : World} {ρ : Rd} {ρ' : Operand → Value}

theorem kindEq_eq {a b : IntKind} (h : kindEq a b = true) : a = b := by cases a <;> cases b <;> first | rfl | (simp [kindEq] at h)

theorem modify_map {α β : Type} (a : Array α) (j : Nat) (f : α → α) (g : α → β) (hg : ∀ e, a[j]? = some e → g (f e) = g e) : (a.modify j f).toList.map g = a.toList.map g := by
  apply List.ext_getElem?
  intro i
  simp only [List.getElem?_map, Array.getElem?_toList, Array.getElem?_modify]
  by_cases e : j = i
  · subst e
    rw [if_pos rfl]
    cases ha : a[j]? with
    | none => rfl
    | some x => simp [hg x ha]
  · rw [if_neg e]

theorem pairwise_at {α : Type} {R : α → α → Prop} {l : List α} (hs : ∀ a b, R a b → R b a) (hp : l.Pairwise R) {i j : Nat} {a b : α} (ha : l[i]? = some a) (hb : l[j]? = some b) (hne : i ≠ j) : R a b := by
  obtain ⟨hi, rfl⟩ := List.getElem?_eq_some_iff.1 ha
  obtain ⟨hj, rfl⟩ := List.getElem?_eq_some_iff.1 hb
  rw [List.pairwise_iff_getElem] at hp
  rcases Nat.lt_or_gt_of_ne hne with h | h
  · exact hp i j hi hj h
  · exact hs _ _ (hp j i hj hi h)

theorem MR.update {kd : IntKind} {es : List (Int × V)} {es' : Array MapEntry} {clock : Nat} (hr : MR μ kd es es'.toList clock) {j : Nat} {e : MapEntry} {m : Int} {v0 v : V} {x : Value} (hj : es'[j]? = some e) (hk : e.key = .int kd m) (h0 : hasKey m es = some v0) (hv : VR μ v x) :
    MR μ kd (addKey m v es) (es'.modify j fun e => { e with key := .int kd m, val := x }).toList clock := by
  have hjl : es'.toList[j]? = some e := by simpa using hj
  have hkeys := modify_map es' j (fun e => { e with key := .int kd m, val := x }) (·.key) (fun e' h => by rw [hj] at h; cases h; exact hk.symm)
  have hborn := modify_map es' j (fun e => { e with key := .int kd m, val := x }) (·.born) (fun e' h => rfl)
  have hmem : ∀ e1 ∈ (es'.modify j fun e => { e with key := .int kd m, val := x }).toList, (e1 = { e with key := .int kd m, val := x }) ∨ (e1 ∈ es'.toList ∧ e1.key ≠ .int kd m) := by
    intro e1 h1
    obtain ⟨i, hi⟩ := List.getElem?_of_mem h1
    rw [Array.getElem?_toList, Array.getElem?_modify] at hi
    by_cases e2 : j = i
    · subst e2
      rw [if_pos rfl, hj] at hi
      left
      simpa using hi.symm
    · rw [if_neg e2] at hi
      have hi2 : es'.toList[i]? = some e1 := by simpa using hi
      refine .inr ⟨List.mem_of_getElem? hi2, ?_⟩
      have := pairwise_at (fun a b h => fun q => h q.symm) hr.keys hi2 hjl (fun q => e2 q.symm)
      rw [hk] at this
      exact this
  refine ⟨fun e1 h1 => ?_, fun n y hn => ?_, ?_, ?_, ?_, fun e1 h1 => ?_, addKey_sorted hr.sorted⟩
  · rcases hmem e1 h1 with rfl | ⟨h2, h3⟩
    · exact ⟨m, v, rfl, by rw [hasKey_addKey hr.sorted, if_pos rfl], hv⟩
    · obtain ⟨n, y, h4, h5, h6⟩ := hr.there e1 h2
      refine ⟨n, y, h4, ?_, h6⟩
      rw [hasKey_addKey hr.sorted, if_neg (fun q => h3 (by rw [h4, q]))]
      exact h5
  · rw [hasKey_addKey hr.sorted] at hn
    by_cases e2 : n = m
    · subst e2
      refine ⟨{ e with key := .int kd n, val := x }, ?_, rfl⟩
      apply List.mem_of_getElem? (i := j)
      rw [Array.getElem?_toList, Array.getElem?_modify, if_pos rfl, hj]
      rfl
    · rw [if_neg e2] at hn
      obtain ⟨e1, h1, h2⟩ := hr.back n y hn
      obtain ⟨i, hi⟩ := List.getElem?_of_mem h1
      refine ⟨e1, ?_, h2⟩
      apply List.mem_of_getElem? (i := i)
      rw [Array.getElem?_toList, Array.getElem?_modify, if_neg]
      · simpa using hi
      · rintro rfl
        rw [hjl] at hi
        cases hi
        rw [hk] at h2
        injection h2 with _ q
        exact e2 q.symm
  · rw [addKey_length hr.sorted, h0]
    simpa using hr.size
  · have q : (es'.toList.map fun e : MapEntry => e.key).Pairwise (fun a b => a ≠ b) := List.pairwise_map.2 hr.keys
    rw [← hkeys] at q
    exact List.pairwise_map.1 q
  · have q : (es'.toList.map fun e : MapEntry => e.born).Pairwise (fun a b => a ≠ b) := List.pairwise_map.2 hr.stamps
    rw [← hborn] at q
    exact List.pairwise_map.1 q
  · have : e1.born ∈ (es'.modify j fun e => { e with key := .int kd m, val := x }).toList.map (·.born) := List.mem_map_of_mem h1
    rw [hborn] at this
    obtain ⟨e0, h2, h3⟩ := List.mem_map.1 this
    rw [← h3]
    exact hr.young e0 h2

theorem MR.insert {kd : IntKind} {es : List (Int × V)} {es' : Array MapEntry} {clock : Nat} (hr : MR μ kd es es'.toList clock) {m : Int} {v : V} {x : Value} (h0 : hasKey m es = none) (hno : ∀ e ∈ es'.toList, e.key ≠ .int kd m) (hv : VR μ v x) :
    MR μ kd (addKey m v es) (es'.push { key := .int kd m, val := x, born := clock }).toList (clock + 1) := by
  rw [Array.toList_push]
  refine ⟨fun e1 h1 => ?_, fun n y hn => ?_, ?_, ?_, ?_, fun e1 h1 => ?_, addKey_sorted hr.sorted⟩
  · rcases List.mem_append.1 h1 with h2 | h2
    · obtain ⟨n, y, h4, h5, h6⟩ := hr.there e1 h2
      refine ⟨n, y, h4, ?_, h6⟩
      rw [hasKey_addKey hr.sorted, if_neg (fun q => hno e1 h2 (by rw [h4, q]))]
      exact h5
    · rw [List.mem_singleton] at h2
      subst h2
      exact ⟨m, v, rfl, by rw [hasKey_addKey hr.sorted, if_pos rfl], hv⟩
  · rw [hasKey_addKey hr.sorted] at hn
    by_cases e2 : n = m
    · subst e2
      exact ⟨_, List.mem_append.2 (.inr (List.mem_singleton.2 rfl)), rfl⟩
    · rw [if_neg e2] at hn
      obtain ⟨e1, h1, h2⟩ := hr.back n y hn
      exact ⟨e1, List.mem_append.2 (.inl h1), h2⟩
  · rw [addKey_length hr.sorted, h0]
    have := hr.size
    simp at this ⊢
    omega
  · rw [List.pairwise_append]
    refine ⟨hr.keys, by simp, fun a ha b hb => ?_⟩
    rw [List.mem_singleton] at hb
    subst hb
    exact hno a ha
  · rw [List.pairwise_append]
    refine ⟨hr.stamps, by simp, fun a ha b hb => ?_⟩
    rw [List.mem_singleton] at hb
    subst hb
    have := hr.young a ha
    simp only
    omega
  · rcases List.mem_append.1 h1 with h2 | h2
    · have := hr.young e1 h2; omega
    · rw [List.mem_singleton] at h2
      subst h2
      simp only
      omega

theorem dropKey_none {k : Int} : ∀ {es : List (Int × V)}, hasKey k es = none → dropKey k es = es
  | [], _ => rfl
  | (a, x) :: r, h => by
    simp only [hasKey] at h
    by_cases e : a = k
    · simp [e] at h
    · simp only [e, decide_false] at h
      simp only [dropKey, e, decide_false, dropKey_none h]

theorem MR.erase {kd : IntKind} {es : List (Int × V)} {es' : Array MapEntry} {clock : Nat} (hr : MR μ kd es es'.toList clock) {j : Nat} {e : MapEntry} {m : Int} {v0 : V} (hj : es'[j]? = some e) (hk : e.key = .int kd m) (h0 : hasKey m es = some v0) :
    MR μ kd (dropKey m es) (es'.eraseIdxIfInBounds j).toList clock := by
  have hjl : es'.toList[j]? = some e := by simpa using hj
  have hlt : j < es'.size := (Array.getElem?_eq_some_iff.1 hj).1
  have he : (es'.eraseIdxIfInBounds j).toList = es'.toList.eraseIdx j := by
    unfold Array.eraseIdxIfInBounds
    rw [dif_pos hlt]
    simp
  rw [he]
  have hsub := List.eraseIdx_sublist es'.toList j
  refine ⟨fun e1 h1 => ?_, fun n y hn => ?_, ?_, hr.keys.sublist hsub, hr.stamps.sublist hsub, fun e1 h1 => hr.young e1 (hsub.subset h1), dropKey_sorted hr.sorted⟩
  · obtain ⟨n, y, h4, h5, h6⟩ := hr.there e1 (hsub.subset h1)
    refine ⟨n, y, h4, ?_, h6⟩
    rw [List.mem_eraseIdx_iff_getElem?] at h1
    obtain ⟨i, h7, h8⟩ := h1
    have := pairwise_at (fun a b h => fun q => h q.symm) hr.keys h8 hjl h7
    rw [hasKey_dropKey hr.sorted, if_neg]
    · exact h5
    · intro q
      exact this (by rw [h4, hk, q])
  · rw [hasKey_dropKey hr.sorted] at hn
    by_cases e2 : n = m
    · rw [if_pos e2] at hn; cases hn
    · rw [if_neg e2] at hn
      obtain ⟨e1, h1, h2⟩ := hr.back n y hn
      refine ⟨e1, ?_, h2⟩
      rw [List.mem_eraseIdx_iff_getElem?]
      obtain ⟨i, hi⟩ := List.getElem?_of_mem h1
      refine ⟨i, ?_, hi⟩
      rintro rfl
      rw [hjl] at hi
      cases hi
      rw [hk] at h2
      injection h2 with _ q
      exact e2 q.symm
  · rw [dropKey_length, h0]
    have := hr.size
    rw [List.length_eraseIdx]
    simp at this ⊢
    rw [if_pos hlt]
    omega

theorem sameBits_int (n : Nat) (k : IntKind) (m : Int) : Instr.sameBits n (.int k m) (.int k m) = true := by
  cases n <;> simp [Instr.sameBits]

theorem run_keyThatStays (k : IntKind) (m : Int) : (Instr.keyThatStays (.int k m) (.int k m)).run P w = .ok (.int k m) w := by
  unfold Instr.keyThatStays
  rw [sameBits_int]
  rfl

theorem op_lookup (R : Rel P K w0 μ h w) {t e : TypeId} {kd : IntKind} {z : V} {ok : Bool} {xo io : Operand} {k : IntKind} {n : Int} (hm : mapOf P t = some (kd, e)) (hz : zeroOf P e = some z) (hi : VR μ (.int k n) (ρ' io)) {x : V} (hx : VR μ x (ρ' xo))
    {r : Option V} (hr : (x = .nilm ∧ r = none) ∨ ∃ o es ins, x = .map o ∧ h.get o = some (.map k es ins) ∧ r = hasKey n es) {o : Oper} (ho : o.op = .lookup t xo io ok) :
    Res P K w0 μ ((execOp ρ' o).run P w) (tellV ok z r) h := by
  obtain ⟨kt, h1, h2⟩ := mapOf_some hm
  obtain ⟨i, zx, h3, h4, hzv⟩ := zeroOf_some hz
  generalize hx' : ρ' xo = x' at hx
  generalize hi' : ρ' io = i' at hi
  cases hi
  have tup : ∀ (v : V) (y : Value) (b : Bool), VR μ v y → VR μ (.tup [v, .bool b]) (.tuple #[y, .bool b]) := fun v y b hv => VR.tup (.cons hv (.cons (.bool b) .nil))
  rcases hr with ⟨rfl, rfl⟩ | ⟨om, es, ins, rfl, hg, rfl⟩
  · cases hx
    have q0 : (Instr.findKey kt (.int k n) []).run P w = .ok none w := by
      rcases run_findKey (P := P) (w := w) (m := n) (kd := k) (es := []) h2 (fun e he => by cases he) with ⟨j, e1, q1, _⟩ | ⟨_, q2⟩
      · simp at q1
      · exact q2
    have q : (Instr.lookup t (.map none) (.int k n) ok).run P w = .ok (if ok then .tuple #[zx, .bool false] else zx) w := by
      unfold Instr.lookup
      simp only [Sem.run_bind, run_und h1, Result.andThen_ok, pure_bind, run_checkKey h2, q0, run_zeroValue h3 h4]
      cases ok <;> rfl
    cases ok
    · exact Res.same (x := zx) (by unfold execOp; rw [ho]; simp only [hx', hi', Sem.run_bind, q]; rfl) R (hzv μ)
    · exact Res.same (x := .tuple #[zx, .bool false]) (by unfold execOp; rw [ho]; simp only [hx', hi', Sem.run_bind, q]; rfl) R (tup _ _ _ (hzv μ))
  · obtain ⟨l, es', clock, hl, hb, hmr⟩ := R.mapAt hg
    cases hx with
    | @map _ l2 hl2 =>
      rw [hl] at hl2
      cases hl2
      have hobj := run_getObj (P := P) hb (fun _ _ _ q => by cases q)
      rcases hmr.find (P := P) (w := w) h2 n with ⟨j, e1, v, q1, q2, q3, q4, q5⟩ | ⟨q1, q2, q3⟩
      · rw [q3]
        have q : (Instr.lookup t (.map (some l.blk)) (.int k n) ok).run P w = .ok (if ok then .tuple #[e1.val, .bool true] else e1.val) w := by
          unfold Instr.lookup
          simp only [Sem.run_bind, run_und h1, Result.andThen_ok, hobj, Sem.run_pure, run_checkKey h2, q5]
        cases ok
        · exact Res.same (x := e1.val) (by unfold execOp; rw [ho]; simp only [hx', hi', Sem.run_bind, q]; rfl) R q4
        · exact Res.same (x := .tuple #[e1.val, .bool true]) (by unfold execOp; rw [ho]; simp only [hx', hi', Sem.run_bind, q]; rfl) R (tup _ _ _ q4)
      · rw [q1]
        have q : (Instr.lookup t (.map (some l.blk)) (.int k n) ok).run P w = .ok (if ok then .tuple #[zx, .bool false] else zx) w := by
          unfold Instr.lookup
          simp only [Sem.run_bind, run_und h1, Result.andThen_ok, hobj, pure_bind, run_checkKey h2, q3, run_zeroValue h3 h4]
          cases ok <;> rfl
        cases ok
        · exact Res.same (x := zx) (by unfold execOp; rw [ho]; simp only [hx', hi', Sem.run_bind, q]; rfl) R (hzv μ)
        · exact Res.same (x := .tuple #[zx, .bool false]) (by unfold execOp; rw [ho]; simp only [hx', hi', Sem.run_bind, q]; rfl) R (tup _ _ _ (hzv μ))

theorem op_mapup (R : Rel P K w0 μ h w) {t e : TypeId} {kd : IntKind} {mo ko vo : Operand} {om : Nat} {k : IntKind} {n : Int} {v : V} {es : List (Int × V)} {ins : Nat} (hm : mapOf P t = some (kd, e)) (hx : VR μ (.map om) (ρ' mo)) (hk : VR μ (.int k n) (ρ' ko)) (hv : VR μ v (ρ' vo))
    (hg : h.get om = some (.map k es ins)) {o : Oper} (ho : o.op = .mapUpdate t mo ko vo ∨ o.op = .insert t mo ko vo) :
    Res P K w0 μ ((execOp ρ' o).run P w) .undef (h.put om (.map k (addKey n v es) (match hasKey n es with | some _ => ins | none => Nat.succ ins))) := by
  obtain ⟨kt, h1, h2⟩ := mapOf_some hm
  obtain ⟨l, es', clock, hl, hb, hmr⟩ := R.mapAt hg
  generalize hx' : ρ' mo = x' at hx
  generalize hk' : ρ' ko = k' at hk
  cases hk
  cases hx with
  | @map _ l2 hl2 =>
    rw [hl] at hl2
    cases hl2
    have hobj := run_getObj (P := P) hb (fun _ _ _ q => by cases q)
    have fin : ∀ w', (Instr.mapUpdate t (.map (some l.blk)) (.int k n) (ρ' vo)).run P w = .ok () w' → (execOp ρ' o).run P w = .ok .skip w' := by
      intro w' q
      unfold execOp
      rcases ho with ho | ho <;> rw [ho] <;> simp only [hx', hk', Sem.run_bind, q] <;> rfl
    rcases hmr.find (P := P) (w := w) h2 n with ⟨j, e1, v0, q1, q2, q3, q4, q5⟩ | ⟨q1, q2, q3⟩
    · have q1' : es'[j]? = some e1 := by simpa using q1
      rw [q3]
      refine ⟨μ, undef, _, .skip, fin _ ?_, .inr ⟨rfl, rfl⟩, Mu.le_refl μ, R.turnMap hg hl hb (hmr.update q1' q2 q3 hv) (.inr ⟨rfl, rfl, fun e2 he2 => ?_⟩), VR.undef μ⟩
      · unfold Instr.mapUpdate
        simp only [Sem.run_bind, run_und h1, Result.andThen_ok, hobj, run_checkKey h2, q5, q1', Option.map_some, Option.getD_some, q2, run_keyThatStays]
        exact run_setObj hb (fun _ _ _ q => by cases q)
      · obtain ⟨i, hi⟩ := List.getElem?_of_mem he2
        rw [Array.getElem?_toList, Array.getElem?_modify] at hi
        by_cases e3 : j = i
        · subst e3
          rw [if_pos rfl, q1'] at hi
          simp only [Option.map_some, Option.some.injEq] at hi
          subst hi
          exact ⟨e1, List.mem_of_getElem? q1, q2, rfl⟩
        · rw [if_neg e3] at hi
          exact ⟨e2, List.mem_of_getElem? (i := i) (by simpa using hi), rfl, rfl⟩
    · rw [q1]
      refine ⟨μ, undef, _, .skip, fin _ ?_, .inr ⟨rfl, rfl⟩, Mu.le_refl μ, R.turnMap hg hl hb (hmr.insert q1 q2 hv) (.inl (Nat.lt_succ_self _)), VR.undef μ⟩
      unfold Instr.mapUpdate
      simp only [Sem.run_bind, run_und h1, Result.andThen_ok, hobj, run_checkKey h2, q3]
      exact run_setObj hb (fun _ _ _ q => by cases q)

theorem run_delete {t e ty u : TypeId} {kd k : IntKind} {om : Nat} {n : Int} {es : List (Int × V)} {ins : Nat} (R : Rel P K w0 μ h w) (hm : mapOf P t = some (kd, e)) {x' : Value} (hx : VR μ (.map om) x') (hg : h.get om = some (.map k es ins)) :
    Res' P K w0 μ ((Builtin.delete_ #[t, u] ty #[x', .int k n]).run P w) .undef (h.put om (.map k (dropKey n es) ins)) := by
  obtain ⟨kt, h1, h2⟩ := mapOf_some hm
  obtain ⟨l, es', clock, hl, hb, hmr⟩ := R.mapAt hg
  cases hx with
  | @map _ l2 hl2 =>
    rw [hl] at hl2
    cases hl2
    have hobj := run_getObj (P := P) hb (fun _ _ _ q => by cases q)
    rcases hmr.find (P := P) (w := w) h2 n with ⟨j, e1, v0, q1, q2, q3, q4, q5⟩ | ⟨q1, q2, q3⟩
    · have q1' : es'[j]? = some e1 := by simpa using q1
      refine ⟨μ, undef, _, ?_, Mu.le_refl μ, R.turnMap hg hl hb (hmr.erase q1' q2 q3) (.inr ⟨rfl, rfl, fun e2 he2 => ?_⟩), VR.undef μ⟩
      · unfold Builtin.delete_
        simp only [List.getElem?_toArray, List.getElem?_cons_zero, List.getElem?_cons_succ, Sem.run_bind, run_und h1, Result.andThen_ok, hobj, run_checkKey h2, q5, run_setObj hb (fun _ _ _ q => by cases q)]
        rfl
      · have hlt : j < es'.size := (Array.getElem?_eq_some_iff.1 q1').1
        have he : (es'.eraseIdxIfInBounds j).toList = es'.toList.eraseIdx j := by
          unfold Array.eraseIdxIfInBounds
          rw [dif_pos hlt]
          simp
        rw [he] at he2
        exact ⟨e2, (List.eraseIdx_sublist es'.toList j).subset he2, rfl, rfl⟩
    · refine ⟨μ, undef, _, ?_, Mu.le_refl μ, R.turnMap (es1 := dropKey n es) hg hl hb (by rw [dropKey_none q1]; exact hmr) (.inr ⟨rfl, rfl, fun e2 he2 => ⟨e2, he2, rfl, rfl⟩⟩), VR.undef μ⟩
      unfold Builtin.delete_
      simp only [List.getElem?_toArray, List.getElem?_cons_zero, List.getElem?_cons_succ, Sem.run_bind, run_und h1, Result.andThen_ok, hobj, run_checkKey h2, q3, run_setObj hb (fun _ _ _ q => by cases q)]
      rfl
end
end Go.Xr
