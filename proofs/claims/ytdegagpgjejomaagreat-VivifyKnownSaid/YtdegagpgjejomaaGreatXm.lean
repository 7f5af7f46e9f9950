/- X's operations on maps and iterators are the machine's. -/
import Derived.Test.YtdegagpgjejomaaGreatXl
namespace Go.Xr
open Go.RowKit
section
variable [RoLim] {P : Program} {K : Nat → Prop} {w0 : World} {μ μ' : Mu} {h h' : Heap} {w w' : World} {ρ : Rd} {ρ' : Operand → Value}

omit [RoLim] in
theorem kindEq_eq {a b : IntKind} (h : kindEq a b = true) : a = b := by cases a <;> cases b <;> first | rfl | (simp [kindEq] at h)

omit [RoLim] in
theorem modify_map {α β : Type} (a : Array α) (j : Nat) (f : α → α) (g : α → β) (hg : ∀ e, a[j]? = some e → g (f e) = g e) : (a.modify j f).toList.map g = a.toList.map g := by
  apply List.ext_getElem?
  intro i
  simp only [List.getElem?_map, Array.getElem?_toList, Array.getElem?_modify]
  by_cases e : j = i
  · subst e
    rw [if_pos rfl]
    cases ha : a[j]? with
    | none => rfl
    | some x => simp [hg x ha]
  · rw [if_neg e]

omit [RoLim] in
theorem pairwise_at {α : Type} {R : α → α → Prop} {l : List α} (hs : ∀ a b, R a b → R b a) (hp : l.Pairwise R) {i j : Nat} {a b : α} (ha : l[i]? = some a) (hb : l[j]? = some b) (hne : i ≠ j) : R a b := by
  obtain ⟨hi, rfl⟩ := List.getElem?_eq_some_iff.1 ha
  obtain ⟨hj, rfl⟩ := List.getElem?_eq_some_iff.1 hb
  rw [List.pairwise_iff_getElem] at hp
  rcases Nat.lt_or_gt_of_ne hne with h | h
  · exact hp i j hi hj h
  · exact hs _ _ (hp j i hj hi h)

omit [RoLim] in
theorem MR.update {kd : IntKind} {es : List (Int × V)} {es' : Array MapEntry} {clock : Nat} (hr : MR μ kd es es'.toList clock) {j : Nat} {e : MapEntry} {m : Int} {v0 v : V} {x : Value} (hj : es'[j]? = some e) (hk : e.key = .int kd m) (h0 : hasKey m es = some v0) (hv : VR μ v x) (hw : ∀ o, v = .hole o → ∃ l, μ o 0 = some l ∧ l.base = e.born) :
    MR μ kd (addKey m v es) (es'.modify j fun e => { e with key := .int kd m, val := x }).toList clock := by
  have hjl : es'.toList[j]? = some e := by simpa using hj
  have hkeys := modify_map es' j (fun e => { e with key := .int kd m, val := x }) (·.key) (fun e' h => by rw [hj] at h; cases h; exact hk.symm)
  have hborn := modify_map es' j (fun e => { e with key := .int kd m, val := x }) (·.born) (fun e' h => rfl)
  have hmem : ∀ e1 ∈ (es'.modify j fun e => { e with key := .int kd m, val := x }).toList, (e1 = { e with key := .int kd m, val := x }) ∨ (e1 ∈ es'.toList ∧ e1.key ≠ .int kd m) := by
    intro e1 h1
    obtain ⟨i, hi⟩ := List.getElem?_of_mem h1
    rw [Array.getElem?_toList, Array.getElem?_modify] at hi
    by_cases e2 : j = i
    · subst e2
      rw [if_pos rfl, hj] at hi
      left
      simpa using hi.symm
    · rw [if_neg e2] at hi
      have hi2 : es'.toList[i]? = some e1 := by simpa using hi
      refine .inr ⟨List.mem_of_getElem? hi2, ?_⟩
      have := pairwise_at (fun a b h => fun q => h q.symm) hr.keys hi2 hjl (fun q => e2 q.symm)
      rw [hk] at this
      exact this
  refine ⟨fun e1 h1 => ?_, fun n y hn => ?_, ?_, ?_, ?_, fun e1 h1 => ?_, addKey_sorted hr.sorted, fun e1 h1 n o hn ho => ?_⟩
  rotate_right
  · rw [hasKey_addKey hr.sorted] at ho
    rcases hmem e1 h1 with rfl | ⟨h2, h3⟩
    · injection hn with _ hn
      rw [if_pos hn.symm] at ho
      injection ho with ho
      exact hw o ho
    · rw [if_neg (fun q => h3 (by rw [hn, q]))] at ho
      exact hr.open_ e1 h2 n o hn ho
  · rcases hmem e1 h1 with rfl | ⟨h2, h3⟩
    · exact ⟨m, v, rfl, by rw [hasKey_addKey hr.sorted, if_pos rfl], hv⟩
    · obtain ⟨n, y, h4, h5, h6⟩ := hr.there e1 h2
      refine ⟨n, y, h4, ?_, h6⟩
      rw [hasKey_addKey hr.sorted, if_neg (fun q => h3 (by rw [h4, q]))]
      exact h5
  · rw [hasKey_addKey hr.sorted] at hn
    by_cases e2 : n = m
    · subst e2
      refine ⟨{ e with key := .int kd n, val := x }, ?_, rfl⟩
      apply List.mem_of_getElem? (i := j)
      rw [Array.getElem?_toList, Array.getElem?_modify, if_pos rfl, hj]
      rfl
    · rw [if_neg e2] at hn
      obtain ⟨e1, h1, h2⟩ := hr.back n y hn
      obtain ⟨i, hi⟩ := List.getElem?_of_mem h1
      refine ⟨e1, ?_, h2⟩
      apply List.mem_of_getElem? (i := i)
      rw [Array.getElem?_toList, Array.getElem?_modify, if_neg]
      · simpa using hi
      · rintro rfl
        rw [hjl] at hi
        cases hi
        rw [hk] at h2
        injection h2 with _ q
        exact e2 q.symm
  · rw [addKey_length hr.sorted, h0]
    simpa using hr.size
  · have q : (es'.toList.map fun e : MapEntry => e.key).Pairwise (fun a b => a ≠ b) := List.pairwise_map.2 hr.keys
    rw [← hkeys] at q
    exact List.pairwise_map.1 q
  · have q : (es'.toList.map fun e : MapEntry => e.born).Pairwise (fun a b => a ≠ b) := List.pairwise_map.2 hr.stamps
    rw [← hborn] at q
    exact List.pairwise_map.1 q
  · have : e1.born ∈ (es'.modify j fun e => { e with key := .int kd m, val := x }).toList.map (·.born) := List.mem_map_of_mem h1
    rw [hborn] at this
    obtain ⟨e0, h2, h3⟩ := List.mem_map.1 this
    rw [← h3]
    exact hr.young e0 h2

omit [RoLim] in
theorem MR.insert {kd : IntKind} {es : List (Int × V)} {es' : Array MapEntry} {clock : Nat} (hr : MR μ kd es es'.toList clock) {m : Int} {v : V} {x : Value} (h0 : hasKey m es = none) (hno : ∀ e ∈ es'.toList, e.key ≠ .int kd m) (hv : VR μ v x) (hw : ∀ o, v = .hole o → ∃ l, μ o 0 = some l ∧ l.base = clock) :
    MR μ kd (addKey m v es) (es'.push { key := .int kd m, val := x, born := clock }).toList (clock + 1) := by
  rw [Array.toList_push]
  refine ⟨fun e1 h1 => ?_, fun n y hn => ?_, ?_, ?_, ?_, fun e1 h1 => ?_, addKey_sorted hr.sorted, fun e1 h1 n o hn ho => ?_⟩
  rotate_right
  · rw [hasKey_addKey hr.sorted] at ho
    rcases List.mem_append.1 h1 with h2 | h2
    · rw [if_neg (fun q => hno e1 h2 (by rw [hn, q]))] at ho
      exact hr.open_ e1 h2 n o hn ho
    · rw [List.mem_singleton] at h2
      subst h2
      injection hn with _ hn
      rw [if_pos hn.symm] at ho
      injection ho with ho
      exact hw o ho
  · rcases List.mem_append.1 h1 with h2 | h2
    · obtain ⟨n, y, h4, h5, h6⟩ := hr.there e1 h2
      refine ⟨n, y, h4, ?_, h6⟩
      rw [hasKey_addKey hr.sorted, if_neg (fun q => hno e1 h2 (by rw [h4, q]))]
      exact h5
    · rw [List.mem_singleton] at h2
      subst h2
      exact ⟨m, v, rfl, by rw [hasKey_addKey hr.sorted, if_pos rfl], hv⟩
  · rw [hasKey_addKey hr.sorted] at hn
    by_cases e2 : n = m
    · subst e2
      exact ⟨_, List.mem_append.2 (.inr (List.mem_singleton.2 rfl)), rfl⟩
    · rw [if_neg e2] at hn
      obtain ⟨e1, h1, h2⟩ := hr.back n y hn
      exact ⟨e1, List.mem_append.2 (.inl h1), h2⟩
  · rw [addKey_length hr.sorted, h0]
    have := hr.size
    simp at this ⊢
    omega
  · rw [List.pairwise_append]
    refine ⟨hr.keys, by simp, fun a ha b hb => ?_⟩
    rw [List.mem_singleton] at hb
    subst hb
    exact hno a ha
  · rw [List.pairwise_append]
    refine ⟨hr.stamps, by simp, fun a ha b hb => ?_⟩
    rw [List.mem_singleton] at hb
    subst hb
    have := hr.young a ha
    simp only
    omega
  · rcases List.mem_append.1 h1 with h2 | h2
    · have := hr.young e1 h2; omega
    · rw [List.mem_singleton] at h2
      subst h2
      simp only
      omega

omit [RoLim] in
theorem dropKey_none {k : Int} : ∀ {es : List (Int × V)}, hasKey k es = none → dropKey k es = es
  | [], _ => rfl
  | (a, x) :: r, h => by
    simp only [hasKey] at h
    by_cases e : a = k
    · simp [e] at h
    · simp only [e, decide_false] at h
      simp only [dropKey, e, decide_false, dropKey_none h]

omit [RoLim] in
theorem MR.erase {kd : IntKind} {es : List (Int × V)} {es' : Array MapEntry} {clock : Nat} (hr : MR μ kd es es'.toList clock) {j : Nat} {e : MapEntry} {m : Int} {v0 : V} (hj : es'[j]? = some e) (hk : e.key = .int kd m) (h0 : hasKey m es = some v0) :
    MR μ kd (dropKey m es) (es'.eraseIdxIfInBounds j).toList clock := by
  have hjl : es'.toList[j]? = some e := by simpa using hj
  have hlt : j < es'.size := (Array.getElem?_eq_some_iff.1 hj).1
  have he : (es'.eraseIdxIfInBounds j).toList = es'.toList.eraseIdx j := by
    unfold Array.eraseIdxIfInBounds
    rw [dif_pos hlt]
    simp
  rw [he]
  have hsub := List.eraseIdx_sublist es'.toList j
  refine ⟨fun e1 h1 => ?_, fun n y hn => ?_, ?_, hr.keys.sublist hsub, hr.stamps.sublist hsub, fun e1 h1 => hr.young e1 (hsub.subset h1), dropKey_sorted hr.sorted, fun e1 h1 n o hn ho => ?_⟩
  rotate_right
  · rw [hasKey_dropKey hr.sorted] at ho
    by_cases e2 : n = m
    · rw [if_pos e2] at ho; cases ho
    · rw [if_neg e2] at ho
      exact hr.open_ e1 (hsub.subset h1) n o hn ho
  · obtain ⟨n, y, h4, h5, h6⟩ := hr.there e1 (hsub.subset h1)
    refine ⟨n, y, h4, ?_, h6⟩
    rw [List.mem_eraseIdx_iff_getElem?] at h1
    obtain ⟨i, h7, h8⟩ := h1
    have := pairwise_at (fun a b h => fun q => h q.symm) hr.keys h8 hjl h7
    rw [hasKey_dropKey hr.sorted, if_neg]
    · exact h5
    · intro q
      exact this (by rw [h4, hk, q])
  · rw [hasKey_dropKey hr.sorted] at hn
    by_cases e2 : n = m
    · rw [if_pos e2] at hn; cases hn
    · rw [if_neg e2] at hn
      obtain ⟨e1, h1, h2⟩ := hr.back n y hn
      refine ⟨e1, ?_, h2⟩
      rw [List.mem_eraseIdx_iff_getElem?]
      obtain ⟨i, hi⟩ := List.getElem?_of_mem h1
      refine ⟨i, ?_, hi⟩
      rintro rfl
      rw [hjl] at hi
      cases hi
      rw [hk] at h2
      injection h2 with _ q
      exact e2 q.symm
  · rw [dropKey_length, h0]
    have := hr.size
    rw [List.length_eraseIdx]
    simp at this ⊢
    rw [if_pos hlt]
    omega

omit [RoLim] in
theorem sameBits_int (n : Nat) (k : IntKind) (m : Int) : Instr.sameBits n (.int k m) (.int k m) = true := by
  cases n <;> simp [Instr.sameBits]

omit [RoLim] in
theorem run_keyThatStays (k : IntKind) (m : Int) : (Instr.keyThatStays (.int k m) (.int k m)).run P w = .ok (.int k m) w := by
  unfold Instr.keyThatStays
  rw [sameBits_int]
  rfl

theorem op_lookup (R : Rel P K w0 μ h w) {t e : TypeId} {kd : IntKind} {z : V} {ok : Bool} {xo io : Operand} {k : IntKind} {n : Int} (hm : mapOf P t = some (kd, e)) (hz : zeroOf P e = some z) (hi : VR μ (.int k n) (ρ' io)) {x : V} (hx : VR μ x (ρ' xo))
    {r : Option V} (hr : (x = .nilm ∧ r = none) ∨ ∃ o es ins, x = .map o ∧ h.get o = some (.map k es ins) ∧ r = hasKey n es) {o : Oper} (ho : o.op = .lookup t xo io ok) :
    Res P K w0 μ ((execOp ρ' o).run P w) (tellV ok z r) h := by
  obtain ⟨kt, h1, h2⟩ := mapOf_some hm
  obtain ⟨i, zx, h3, h4, hzv⟩ := zeroOf_some hz
  generalize hx' : ρ' xo = x' at hx
  generalize hi' : ρ' io = i' at hi
  cases hi
  have tup : ∀ (v : V) (y : Value) (b : Bool), VR μ v y → VR μ (.tup [v, .bool b]) (.tuple #[y, .bool b]) := fun v y b hv => VR.tup (.cons hv (.cons (.bool b) .nil))
  rcases hr with ⟨rfl, rfl⟩ | ⟨om, es, ins, rfl, hg, rfl⟩
  · cases hx
    have q0 : (Instr.findKey kt (.int k n) []).run P w = .ok none w := by
      rcases run_findKey (P := P) (w := w) (m := n) (kd := k) (es := []) h2 (fun e he => by cases he) with ⟨j, e1, q1, _⟩ | ⟨_, q2⟩
      · simp at q1
      · exact q2
    have q : (Instr.lookup t (.map none) (.int k n) ok).run P w = .ok (if ok then .tuple #[zx, .bool false] else zx) w := by
      unfold Instr.lookup
      simp only [Sem.run_bind, run_und h1, Result.andThen_ok, pure_bind, run_checkKey h2, q0, run_zeroValue h3 h4]
      cases ok <;> rfl
    cases ok
    · exact Res.same (x := zx) (by unfold execOp; rw [ho]; simp only [hx', hi', Sem.run_bind, q]; rfl) R (hzv μ)
    · exact Res.same (x := .tuple #[zx, .bool false]) (by unfold execOp; rw [ho]; simp only [hx', hi', Sem.run_bind, q]; rfl) R (tup _ _ _ (hzv μ))
  · obtain ⟨l, es', clock, hl, hb, hmr⟩ := R.mapAt hg
    cases hx with
    | @map _ l2 hl2 =>
      rw [hl] at hl2
      cases hl2
      have hobj := run_getObj (P := P) hb (fun _ _ _ q => by cases q)
      rcases hmr.find (P := P) (w := w) h2 n with ⟨j, e1, v, q1, q2, q3, q4, q5⟩ | ⟨q1, q2, q3⟩
      · rw [q3]
        have q : (Instr.lookup t (.map (some l.blk)) (.int k n) ok).run P w = .ok (if ok then .tuple #[e1.val, .bool true] else e1.val) w := by
          unfold Instr.lookup
          simp only [Sem.run_bind, run_und h1, Result.andThen_ok, hobj, Sem.run_pure, run_checkKey h2, q5]
        cases ok
        · exact Res.same (x := e1.val) (by unfold execOp; rw [ho]; simp only [hx', hi', Sem.run_bind, q]; rfl) R q4
        · exact Res.same (x := .tuple #[e1.val, .bool true]) (by unfold execOp; rw [ho]; simp only [hx', hi', Sem.run_bind, q]; rfl) R (tup _ _ _ q4)
      · rw [q1]
        have q : (Instr.lookup t (.map (some l.blk)) (.int k n) ok).run P w = .ok (if ok then .tuple #[zx, .bool false] else zx) w := by
          unfold Instr.lookup
          simp only [Sem.run_bind, run_und h1, Result.andThen_ok, hobj, pure_bind, run_checkKey h2, q3, run_zeroValue h3 h4]
          cases ok <;> rfl
        cases ok
        · exact Res.same (x := zx) (by unfold execOp; rw [ho]; simp only [hx', hi', Sem.run_bind, q]; rfl) R (hzv μ)
        · exact Res.same (x := .tuple #[zx, .bool false]) (by unfold execOp; rw [ho]; simp only [hx', hi', Sem.run_bind, q]; rfl) R (tup _ _ _ (hzv μ))

theorem op_mapup (R : Rel P K w0 μ h w) {t e : TypeId} {kd : IntKind} {mo ko vo : Operand} {om : Nat} {k : IntKind} {n : Int} {v : V} {es : List (Int × V)} {ins : Nat} (hm : mapOf P t = some (kd, e)) (hx : VR μ (.map om) (ρ' mo)) (hk : VR μ (.int k n) (ρ' ko)) (hv : VR μ v (ρ' vo))
    (hg : h.get om = some (.map k es ins)) (hw : v.whole = true) {o : Oper} (ho : o.op = .mapUpdate t mo ko vo ∨ o.op = .insert t mo ko vo) :
    Res P K w0 μ ((execOp ρ' o).run P w) .undef (h.put om (.map k (addKey n v es) (match hasKey n es with | some _ => ins | none => Nat.succ ins))) := by
  obtain ⟨kt, h1, h2⟩ := mapOf_some hm
  obtain ⟨l, es', clock, hl, hb, hmr⟩ := R.mapAt hg
  have hnh : ∀ (c : Nat) o, v = .hole o → ∃ l, μ o 0 = some l ∧ l.base = c := fun c o q => by rw [q] at hw; cases hw
  generalize hx' : ρ' mo = x' at hx
  generalize hk' : ρ' ko = k' at hk
  cases hk
  cases hx with
  | @map _ l2 hl2 =>
    rw [hl] at hl2
    cases hl2
    have hobj := run_getObj (P := P) hb (fun _ _ _ q => by cases q)
    have fin : ∀ w', (Instr.mapUpdate t (.map (some l.blk)) (.int k n) (ρ' vo)).run P w = .ok () w' → (execOp ρ' o).run P w = .ok .skip w' := by
      intro w' q
      unfold execOp
      rcases ho with ho | ho <;> rw [ho] <;> simp only [hx', hk', Sem.run_bind, q] <;> rfl
    rcases hmr.find (P := P) (w := w) h2 n with ⟨j, e1, v0, q1, q2, q3, q4, q5⟩ | ⟨q1, q2, q3⟩
    · have q1' : es'[j]? = some e1 := by simpa using q1
      rw [q3]
      refine ⟨μ, undef, _, .skip, fin _ ?_, .inr ⟨rfl, rfl⟩, Mu.le_refl μ, R.turnMap hg hl hb (hmr.update q1' q2 q3 hv (hnh _)) (.inr ⟨rfl, rfl, fun e2 he2 => ?_⟩), VR.undef μ⟩
      · unfold Instr.mapUpdate
        simp only [Sem.run_bind, run_und h1, Result.andThen_ok, hobj, run_checkKey h2, q5, q1', Option.map_some, Option.getD_some, q2, run_keyThatStays]
        exact run_setObj hb (fun _ _ _ q => by cases q)
      · obtain ⟨i, hi⟩ := List.getElem?_of_mem he2
        rw [Array.getElem?_toList, Array.getElem?_modify] at hi
        by_cases e3 : j = i
        · subst e3
          rw [if_pos rfl, q1'] at hi
          simp only [Option.map_some, Option.some.injEq] at hi
          subst hi
          exact ⟨e1, List.mem_of_getElem? q1, q2, rfl⟩
        · rw [if_neg e3] at hi
          exact ⟨e2, List.mem_of_getElem? (i := i) (by simpa using hi), rfl, rfl⟩
    · rw [q1]
      refine ⟨μ, undef, _, .skip, fin _ ?_, .inr ⟨rfl, rfl⟩, Mu.le_refl μ, R.turnMap hg hl hb (hmr.insert q1 q2 hv (hnh _)) (.inl (Nat.lt_succ_self _)), VR.undef μ⟩
      unfold Instr.mapUpdate
      simp only [Sem.run_bind, run_und h1, Result.andThen_ok, hobj, run_checkKey h2, q3]
      exact run_setObj hb (fun _ _ _ q => by cases q)

omit [RoLim] in
theorem VR.cellsOne {v : V} {x : Value} (h : VR μ v x) (ho : v.one = true) : x.cells = #[x] := by
  cases h <;> first | rfl | (simp [V.one] at ho)

/-- A name for a stamp. -/
theorem Rel.ghost (R : Rel P K w0 μ h w) (l : Loc) (hl : l.blk < w.heap.size) : Rel P K w0 (μ.put h.next 0 l) (h.push (.dead false)) w := by
  have hno : ∀ o' g l', (μ.put h.next 0 l) o' g = some l' → μ o' g = some l' ∨ (o' = h.next ∧ g = 0 ∧ l' = l) := by
    intro o' g l' hm
    by_cases e : o' = h.next ∧ g = 0
    · obtain ⟨rfl, rfl⟩ := e
      rw [Mu.put_same] at hm
      cases hm
      exact .inr ⟨rfl, rfl, rfl⟩
    · rw [Mu.put_other _ _ e] at hm
      exact .inl hm
  refine R.step h.next (.dead false) (Mu.le_put l (R.fresh 0)) (fun o' => Heap.get_push ..) (Nat.le_succ _) (Nat.lt_succ_self _) (Nat.le_refl _) (fun b _ => .inl rfl)
    (fun o' g l' hm => ?_) (fun g l' hl' hm => hl'.elim) (fun g l' hm => ?_) trivial (fun oi mo ins seen cur kd es ins' q1 q2 q3 => ?_) rfl rfl rfl
  · rcases hno _ _ _ hm with h1 | ⟨rfl, _, rfl⟩
    · exact .inl h1
    · exact .inr ⟨rfl, hl⟩
  · rcases hno _ _ _ hm with h1 | ⟨_, rfl, rfl⟩
    · rw [R.fresh] at h1; cases h1
    · rfl
  · rw [Heap.get_push] at q1 q2
    rcases q3 with rfl | rfl
    · rw [if_pos rfl] at q1; cases q1
    · rw [if_pos rfl] at q2; cases q2

omit [RoLim] in
theorem modify_congr {α : Type} (a : Array α) (j : Nat) (f g : α → α) (hfg : ∀ e, a[j]? = some e → f e = g e) : a.modify j f = a.modify j g := by
  apply Array.ext_getElem?
  intro i
  rw [Array.getElem?_modify, Array.getElem?_modify]
  by_cases e : j = i
  · subst e
    rw [if_pos rfl, if_pos rfl]
    cases ha : a[j]? with
    | none => rfl
    | some x => simp [hfg x ha]
  · rw [if_neg e, if_neg e]

omit [RoLim] in
theorem modify_old {es' : Array MapEntry} {j : Nat} {e1 : MapEntry} {f : MapEntry → MapEntry} (q1 : es'[j]? = some e1) (hk : (f e1).key = e1.key) (hb : (f e1).born = e1.born) : ∀ e2 ∈ (es'.modify j f).toList, ∃ e0 ∈ es'.toList, e0.key = e2.key ∧ e0.born = e2.born := by
  intro e2 he2
  obtain ⟨i, hi⟩ := List.getElem?_of_mem he2
  rw [Array.getElem?_toList, Array.getElem?_modify] at hi
  by_cases e3 : j = i
  · subst e3
    rw [if_pos rfl, q1] at hi
    simp only [Option.map_some, Option.some.injEq] at hi
    subst hi
    exact ⟨e1, List.mem_of_getElem? (i := j) (by simpa using q1), hk.symm, hb.symm⟩
  · rw [if_neg e3] at hi
    exact ⟨e2, List.mem_of_getElem? (i := i) (by simpa using hi), rfl, rfl⟩

theorem op_mentry (R : Rel P K w0 μ h w) {t e : TypeId} {kd : IntKind} {z v0 : V} {mo ko : Operand} {om ins1 : Nat} {k : IntKind} {n : Int} {es : List (Int × V)} {ins : Nat} (hm : mapOf P t = some (kd, e)) (hz : zeroOf P e = some z) (hx : VR μ (.map om) (ρ' mo)) (hk : VR μ (.int k n) (ρ' ko))
    (hg : h.get om = some (.map k es ins)) (hv : (hasKey n es = some v0 ∧ ins1 = ins) ∨ (hasKey n es = none ∧ v0 = z ∧ ins1 = Nat.succ ins)) (hone : v0.one = true) {o : Oper} (ho : o.op = .mapEntry t mo ko) :
    Res P K w0 μ ((execOp ρ' o).run P w) (.tup [v0, .stamp h.next]) ((h.push (.dead false)).put om (.map k (addKey n (.hole h.next) es) ins1)) := by
  obtain ⟨kt, h1, h2⟩ := mapOf_some hm
  obtain ⟨i, zx, h3, h4, hzv⟩ := zeroOf_some hz
  obtain ⟨l, es', clock, hl, hb, hmr⟩ := R.mapAt hg
  have hlt := (R.dom om 0 l hl).2
  have hne : om ≠ h.next := fun q => by have := (R.obj om _ hg).1; omega
  generalize hx' : ρ' mo = x' at hx
  generalize hk' : ρ' ko = k' at hk
  cases hk
  cases hx with
  | @map _ l2 hl2 =>
    rw [hl] at hl2
    cases hl2
    have hobj := run_getObj (P := P) hb (fun _ _ _ q => by cases q)
    have fin : ∀ x w', (Instr.mapEntry t (.map (some l.blk)) (.int k n)).run P w = .ok x w' → (execOp ρ' o).run P w = .ok (.value x) w' := by
      intro x w' q
      unfold execOp
      rw [ho]
      simp only [hx', hk', Sem.run_bind, q]
      rfl
    have hgg : (h.push (.dead false)).get om = some (.map k es ins) := by rw [Heap.get_push, if_neg hne]; exact hg
    rcases hmr.find (P := P) (w := w) h2 n with ⟨j, e1, v1, q1, q2, q3, q4, q5⟩ | ⟨q1, q2, q3⟩
    · have q1' : es'[j]? = some e1 := by simpa using q1
      obtain ⟨rfl, rfl⟩ : v1 = v0 ∧ ins1 = ins := by
        rcases hv with ⟨a, b⟩ | ⟨a, _⟩
        · rw [q3] at a; cases a; exact ⟨rfl, b⟩
        · rw [q3] at a; cases a
      have R2 := R.ghost ⟨l.blk, e1.born, 0, 0⟩ hlt
      have hle : μ.le (μ.put h.next 0 ⟨l.blk, e1.born, 0, 0⟩) := Mu.le_put _ (R.fresh 0)
      have hcong : es'.modify j (fun e => { e with key := .int k n }) = es'.modify j (fun e => { e with key := .int k n, val := e1.val }) := modify_congr _ _ _ _ fun e h => by rw [q1'] at h; cases h; rfl
      refine ⟨μ.put h.next 0 ⟨l.blk, e1.born, 0, 0⟩, .tuple #[e1.val, goInt e1.born], _, .value (.tuple #[e1.val, goInt e1.born]), fin _ _ ?_, .inl rfl, hle,
        R2.turnMap hgg (hle _ _ _ hl) hb ((hmr.mono hle).update q1' q2 q3 (.hole (q4.cellsOne hone)) fun o q => ?_) (.inr ⟨rfl, rfl, modify_old q1' q2.symm rfl⟩), ?_⟩
      · unfold Instr.mapEntry
        simp only [Sem.run_bind, run_und h1, Result.andThen_ok, hobj, run_checkKey h2, q5, q1', Option.map_some, Option.getD_some, q2, run_keyThatStays, hcong]
        rw [run_setObj hb (fun _ _ _ q => by cases q)]
        rfl
      · cases q
        exact ⟨_, Mu.put_same .., rfl⟩
      · exact VR.tup (.cons (q4.mono hle) (.cons (.stamp (Mu.put_same ..)) .nil))
    · obtain ⟨rfl, rfl⟩ : v0 = z ∧ ins1 = Nat.succ ins := by
        rcases hv with ⟨a, b⟩ | ⟨_, a⟩
        · rw [q1] at a; cases a
        · exact a
      have R2 := R.ghost ⟨l.blk, clock, 0, 0⟩ hlt
      have hle : μ.le (μ.put h.next 0 ⟨l.blk, clock, 0, 0⟩) := Mu.le_put _ (R.fresh 0)
      refine ⟨μ.put h.next 0 ⟨l.blk, clock, 0, 0⟩, .tuple #[zx, goInt clock], _, .value (.tuple #[zx, goInt clock]), fin _ _ ?_, .inl rfl, hle,
        R2.turnMap hgg (hle _ _ _ hl) hb ((hmr.mono hle).insert q1 q2 (x := zx) (.hole ((hzv μ).cellsOne hone)) fun o q => ?_) (.inl (Nat.lt_succ_self _)), ?_⟩
      · unfold Instr.mapEntry
        simp only [Sem.run_bind, run_und h1, Result.andThen_ok, hobj, run_checkKey h2, q3, run_zeroValue h3 h4]
        rw [run_setObj hb (fun _ _ _ q => by cases q)]
        rfl
      · cases q
        exact ⟨_, Mu.put_same .., rfl⟩
      · exact VR.tup (.cons ((hzv _)) (.cons (.stamp (Mu.put_same ..)) .nil))

omit [RoLim] in
theorem holeKey_some {o : Nat} {k : Int} : ∀ {es : List (Int × V)}, (es.Pairwise fun a b => a.1 < b.1) → holeKey o es = some k → hasKey k es = some (.hole o)
  | [], _, hk => by simp [holeKey] at hk
  | (a, x) :: r, hs, hk => by
    have hs' := List.pairwise_cons.1 hs
    have rest : holeKey o r = some k → hasKey k ((a, x) :: r) = some (.hole o) := fun hr => by
      have := holeKey_some hs'.2 hr
      have hmem : ∀ {es : List (Int × V)} {y : V}, hasKey k es = some y → (k, y) ∈ es := by
        intro es
        induction es with
        | nil => intro y hy; simp [hasKey] at hy
        | cons p r ih =>
          intro y hy
          obtain ⟨b, z⟩ := p
          by_cases e : b = k
          · subst e
            simp [hasKey] at hy
            subst hy
            simp
          · simp [hasKey, e] at hy
            exact List.mem_cons_of_mem _ (ih hy)
      have hlt := hs'.1 _ (hmem this)
      have hne : a ≠ k := fun q => by subst q; exact absurd hlt (by simp)
      simp [hasKey, hne, this]
    cases x <;> simp only [holeKey] at hk <;> try exact rest hk
    split at hk
    · rename_i hb
      cases hk
      rw [Nat.eq_of_beq_eq_true hb]
      simp [hasKey]
    · exact rest hk

omit [RoLim] in
theorem find_stamp {es' : Array MapEntry} {j : Nat} {e1 : MapEntry} (q1 : es'[j]? = some e1) (hp : es'.toList.Pairwise fun a b => a.born ≠ b.born) : es'.findIdx? (fun e => (e.born : Int) == (e1.born : Int)) = some j := by
  obtain ⟨hj, hje⟩ := Array.getElem?_eq_some_iff.1 q1
  rw [Array.findIdx?_eq_some_iff_getElem]
  refine ⟨hj, by rw [hje]; simp, fun i hi hq => ?_⟩
  have hi' : es'.toList[i]? = some es'[i] := by simp
  have hj' : es'.toList[j]? = some e1 := by simpa using q1
  have := pairwise_at (fun a b h => fun q => h q.symm) hp hi' hj' (by omega)
  simp at hq
  exact this (by omega)

theorem op_estore (R : Rel P K w0 μ h w) {t : TypeId} {mo so vo : Operand} {om o2 : Nat} {kd : IntKind} {k : Int} {v : V} {es : List (Int × V)} {ins : Nat} (hx : VR μ (.map om) (ρ' mo)) (hs : VR μ (.stamp o2) (ρ' so)) (hv : VR μ v (ρ' vo))
    (hg : h.get om = some (.map kd es ins)) (hk : holeKey o2 es = some k) (hw : v.whole = true) {o : Oper} (ho : o.op = .entryStore t mo so vo) :
    Res P K w0 μ ((execOp ρ' o).run P w) .undef (h.put om (.map kd (addKey k v es) ins)) := by
  obtain ⟨l, es', clock, hl, hb, hmr⟩ := R.mapAt hg
  have hkey := holeKey_some hmr.sorted hk
  obtain ⟨e1, m1, m2⟩ := hmr.back _ _ hkey
  obtain ⟨l2, n1, n2⟩ := hmr.open_ e1 m1 k o2 m2 hkey
  obtain ⟨j, hj⟩ := List.getElem?_of_mem m1
  have q1' : es'[j]? = some e1 := by simpa using hj
  generalize hx' : ρ' mo = x' at hx
  generalize hs' : ρ' so = s' at hs
  cases hs with
  | @stamp _ l3 hl3 =>
    rw [n1] at hl3
    cases hl3
    cases hx with
    | @map _ l2 hl2 =>
      rw [hl] at hl2
      cases hl2
      have hobj := run_getObj (P := P) hb (fun _ _ _ q => by cases q)
      have hcong : es'.modify j (fun e => { e with val := ρ' vo }) = es'.modify j (fun e => { e with key := .int kd k, val := ρ' vo }) := modify_congr _ _ _ _ fun e h => by rw [q1'] at h; cases h; rw [← m2]
      refine ⟨μ, undef, _, .skip, ?_, .inr ⟨rfl, rfl⟩, Mu.le_refl μ, R.turnMap hg hl hb (hmr.update q1' m2 hkey hv fun o q => by rw [q] at hw; cases hw) (.inr ⟨rfl, rfl, modify_old q1' m2.symm rfl⟩), VR.undef μ⟩
      have q : (Instr.entryStore t (.map (some l.blk)) (.int .i64 (l2.base : Int)) (ρ' vo)).run P w = .ok () { w with heap := w.heap.setIfInBounds l.blk (.map (es'.modify j (fun e => { e with key := .int kd k, val := ρ' vo })) clock) } := by
        unfold Instr.entryStore
        rw [n2]
        simp only [Sem.run_bind, Result.andThen_ok, hobj, asInt, asIntOf, Sem.run_pure, find_stamp q1' hmr.stamps, hcong]
        exact run_setObj hb (fun _ _ _ q => by cases q)
      unfold execOp
      rw [ho]
      simp only [hx', hs', Sem.run_bind, q]
      rfl

theorem run_delete {t e ty u : TypeId} {kd k : IntKind} {om : Nat} {n : Int} {es : List (Int × V)} {ins : Nat} (R : Rel P K w0 μ h w) (hm : mapOf P t = some (kd, e)) {x' : Value} (hx : VR μ (.map om) x') (hg : h.get om = some (.map k es ins)) :
    Res' P K w0 μ ((Builtin.delete_ #[t, u] ty #[x', .int k n]).run P w) .undef (h.put om (.map k (dropKey n es) ins)) := by
  obtain ⟨kt, h1, h2⟩ := mapOf_some hm
  obtain ⟨l, es', clock, hl, hb, hmr⟩ := R.mapAt hg
  cases hx with
  | @map _ l2 hl2 =>
    rw [hl] at hl2
    cases hl2
    have hobj := run_getObj (P := P) hb (fun _ _ _ q => by cases q)
    rcases hmr.find (P := P) (w := w) h2 n with ⟨j, e1, v0, q1, q2, q3, q4, q5⟩ | ⟨q1, q2, q3⟩
    · have q1' : es'[j]? = some e1 := by simpa using q1
      refine ⟨μ, undef, _, ?_, Mu.le_refl μ, R.turnMap hg hl hb (hmr.erase q1' q2 q3) (.inr ⟨rfl, rfl, fun e2 he2 => ?_⟩), VR.undef μ⟩
      · unfold Builtin.delete_
        simp only [List.getElem?_toArray, List.getElem?_cons_zero, List.getElem?_cons_succ, Sem.run_bind, run_und h1, Result.andThen_ok, hobj, run_checkKey h2, q5, run_setObj hb (fun _ _ _ q => by cases q)]
        rfl
      · have hlt : j < es'.size := (Array.getElem?_eq_some_iff.1 q1').1
        have he : (es'.eraseIdxIfInBounds j).toList = es'.toList.eraseIdx j := by
          unfold Array.eraseIdxIfInBounds
          rw [dif_pos hlt]
          simp
        rw [he] at he2
        exact ⟨e2, (List.eraseIdx_sublist es'.toList j).subset he2, rfl, rfl⟩
    · refine ⟨μ, undef, _, ?_, Mu.le_refl μ, R.turnMap (es1 := dropKey n es) hg hl hb (by rw [dropKey_none q1]; exact hmr) (.inr ⟨rfl, rfl, fun e2 he2 => ⟨e2, he2, rfl, rfl⟩⟩), VR.undef μ⟩
      unfold Builtin.delete_
      simp only [List.getElem?_toArray, List.getElem?_cons_zero, List.getElem?_cons_succ, Sem.run_bind, run_und h1, Result.andThen_ok, hobj, run_checkKey h2, q3, run_setObj hb (fun _ _ _ q => by cases q)]
      rfl
end
end Go.Xr
