/- X's append keeps the relation. -/
import Derived.Test.YtdegagpgjejomaaGreatXj
namespace Go.Xr
open Go.RowKit
section
variable [RoLim] {P : Program} {K : Nat → Prop} {w0 : World} {μ μ' : Mu} {h h' : Heap} {w w' : World} {ρ : Rd} {ρ' : Operand → Value}

def Res' (P : Program) (K : Nat → Prop) (w0 : World) (μ : Mu) (r : Result Value) (v : V) (h' : Heap) : Prop :=
  ∃ μ' x w', r = .ok x w' ∧ μ.le μ' ∧ Rel P K w0 μ' h' w' ∧ VR μ' v x

theorem Res'.res {r : Result Value} {v : V} (hr : Res' P K w0 μ r v h') {r' : Result Next} (he : ∀ x w', r = .ok x w' → r' = .ok (.value x) w') : Res P K w0 μ r' v h' :=
  let ⟨μ', x, w', h1, h2, h3, h4⟩ := hr
  ⟨μ', x, w', _, he x w' h1, .inl rfl, h2, h3, h4⟩

omit [RoLim] in
theorem size_zc {z : Array Value} {n : Nat} : (Builtin.zeroCells z n).size = n * z.size := by simp [Builtin.zeroCells]

/-- A new array with what is appended. -/
theorem grown_fresh (R : Rel P K w0 μ h w) {e esz cap need : Nat} {old xs : List V} {olds ns : List Value} {zc : Array Value} (ho : VRs μ old olds) (hx : VRs μ xs ns) (hsz : zc.size = esz) (hpos : 0 < esz) (hlen : (old ++ xs).length = need * esz) (hcap : need ≤ cap) :
    Res' P K w0 μ (.ok (.slice (some ⟨w.heap.size, 0, none⟩) need cap) (w.drew.alloc (.cells (olds.toArray ++ ns.toArray ++ Builtin.zeroCells zc (cap - need)) e))) (.slice h.next 0 0 need (.rest 0 esz)) (newCells h (old ++ xs) esz true) := by
  have happ := ho.append hx
  have hl := happ.length
  have hmul : need * esz + (cap - need) * esz = cap * esz := by rw [← Nat.add_mul]; congr 1; omega
  refine ⟨_, _, _, rfl, Mu.le_put _ (R.fresh 0), R.pushCells (w' := w.drew.alloc (.cells (olds.toArray ++ ns.toArray ++ Builtin.zeroCells zc (cap - need)) e)) (old ++ xs) esz cap true _ e rfl rfl rfl rfl (fun i v hg => ?_) (fun _ => ?_), ?_⟩
  · obtain ⟨y, h1, h2⟩ := happ.get hg
    refine ⟨y, ?_, h2⟩
    have hlt := (List.getElem?_eq_some_iff.1 h1).1
    rw [Array.getElem?_append_left (by simp at hlt ⊢; omega)]
    rw [← h1]
    simp
  · refine ⟨?_, ?_, hpos⟩
    · rw [hlen]; exact Nat.mul_le_mul_right _ hcap
    · simp only [Array.size_append, size_zc, hsz]
      simp only [List.length_append] at hl hlen
      simp
      omega
  · have := VR.rest (μ := μ.put h.next 0 ⟨w.heap.size, 0, cap, esz⟩) (o := h.next) (g := 0) (off := 0) (len := need) (n := 0) (Mu.put_same ..) ⟨w.heap.size, 0, none⟩ (.inl rfl) (by simpa using hcap) (by simp) rfl
    simpa using this

/-- An object that is not read any more. -/
theorem Rel.kill (R : Rel P K w0 μ h w) {o : Nat} {c : Cells} (hg : h.get o = some (.cells c)) : Rel P K w0 μ (h.put o (.cells { c with lens := [] })) w := by
  have hdead : ∀ g L, ({ c with lens := [] } : Cells).lenOf g ≠ some L := by
    intro g L hL
    unfold Cells.lenOf at hL
    split at hL <;> simp at hL
  refine R.step o (.cells { c with lens := [] }) (Mu.le_refl μ) (fun o' => Heap.get_put ..) (Nat.le_refl _) (R.obj o _ hg).1 (Nat.le_refl _) (fun b _ => .inl rfl) (fun o' g l hm => .inl hm)
    (fun g l ⟨L, hL⟩ _ => absurd hL (hdead g L)) (fun g l hm => (R.gens o g l _ hm hg : g ≤ c.g)) ⟨fun g L hL => absurd hL (hdead g L), by simp, fun g g' L L' l l' hL => absurd hL (hdead g L)⟩ (fun oi mo ins seen cur kd es ins' q1 q2 q3 => ?_) rfl rfl rfl
  rw [Heap.get_put] at q1 q2
  rcases q3 with rfl | rfl
  · rw [if_pos rfl] at q1; cases q1
  · rw [if_pos rfl] at q2; cases q2

omit [RoLim] in
theorem lens_cons {c : Cells} {L M : Nat} {r : List Nat} {g : Nat} (h : c.lens = L :: r) (hg : c.lenOf g = some M) : (g = c.g ∧ M = L) ∨ (g < c.g ∧ M ∈ r) := by
  unfold Cells.lenOf at hg
  cases hb : Nat.ble g c.g with
  | false => simp [hb] at hg
  | true =>
    simp only [hb] at hg
    have hle := Nat.le_of_ble_eq_true hb
    rw [h, show Nat.sub c.g g = c.g - g from rfl] at hg
    cases hs : c.g - g with
    | zero => rw [hs] at hg; simp at hg; exact .inl ⟨by omega, hg.symm⟩
    | succ n => rw [hs] at hg; simp at hg; exact .inr ⟨by omega, List.mem_of_getElem? hg⟩

omit [RoLim] in
/-- The generations behind an append: the last one is new; those ahead of it are as they were. -/
theorem lenOf_next {c : Cells} {L g M : Nat} {r : List Nat} {cs : List V} (hg : ({ c with cs := cs, g := c.g + 1, lens := L :: r } : Cells).lenOf g = some M) :
    (g = c.g + 1 ∧ M = L) ∨ (g ≤ c.g ∧ ({ c with lens := r } : Cells).lenOf g = some M) := by
  unfold Cells.lenOf at hg ⊢
  simp only at hg ⊢
  cases hb : Nat.ble g (c.g + 1) with
  | false => simp [hb] at hg
  | true =>
    simp only [hb] at hg
    have hle := Nat.le_of_ble_eq_true hb
    rw [show Nat.sub (c.g + 1) g = c.g + 1 - g from rfl] at hg
    cases hs : c.g + 1 - g with
    | zero => rw [hs] at hg; simp at hg; exact .inl ⟨by omega, hg.symm⟩
    | succ n =>
      rw [hs] at hg
      simp only [List.getElem?_cons_succ] at hg
      refine .inr ⟨by omega, ?_⟩
      have hb2 : Nat.ble g c.g = true := Nat.ble_eq_true_of_le (by omega)
      rw [hb2]
      show r[c.g - g]? = some M
      rw [show c.g - g = n from by omega]
      exact hg

/-- One more generation: in the old block, or in another one. -/
theorem Rel.nextGen (R : Rel P K w0 μ h w) {o L : Nat} {c : Cells} {r keep : List Nat} {old xs : List V} (hg : h.get o = some (.cells c)) (hro : c.ro = false) (hsp : c.spare = true) (hlens : c.lens = L :: r) (hkeep : keep = [] ∨ (keep = c.lens ∧ old = c.cs.take L))
    {l' : Loc} {arr' : Array Value} {et' : TypeId} (hesz : l'.esz = c.esz) (hblk : w'.heap[l'.blk]? = some (.cells arr' et' (0, 0)))
    (hsz : w.heap.size ≤ w'.heap.size) (hoth : ∀ b, b < w.heap.size → w'.heap[b]? = w.heap[b]? ∨ (Mine K μ h o b ∧ b = l'.blk)) (hmine : Mine K μ h o l'.blk) (hlt : l'.blk < w'.heap.size)
    (hos : w'.os = w.os) (htape : w'.tape = w.tape) (hout : w'.output = w.output)
    (hcells : ∀ (i : Nat) (v : V), (old ++ xs)[i]? = some v → ∃ x, arr'[l'.base + i]? = some x ∧ VR μ v x)
    (hkap : (old ++ xs).length ≤ l'.kap * l'.esz ∧ l'.base + l'.kap * l'.esz ≤ arr'.size ∧ 0 < l'.esz)
    (hbefore : ∀ g M l, c.lenOf g = some M → keep = c.lens → μ o g = some l → l.blk = l'.blk → l.base = l'.base ∧ ∃ arr et, w.heap[l.blk]? = some (.cells arr et (0, 0)) ∧ ∀ i, i < M → arr'[l.base + i]? = arr[l.base + i]?) :
    Rel P K w0 (μ.put o (c.g + 1) l') (h.put o (.cells { c with cs := old ++ xs, g := c.g + 1, lens := (old ++ xs).length :: keep })) w' := by
  have hnone : μ o (c.g + 1) = none := by
    cases hm : μ o (c.g + 1) with
    | none => rfl
    | some l =>
      have q : c.g + 1 ≤ c.g := R.gens o _ l _ hm hg
      omega
  have hle := Mu.le_put (μ := μ) l' hnone
  have hno : ∀ o' g l, (μ.put o (c.g + 1) l') o' g = some l → μ o' g = some l ∨ (o' = o ∧ g = c.g + 1 ∧ l = l') := by
    intro o' g l hm
    by_cases e : o' = o ∧ g = c.g + 1
    · obtain ⟨rfl, rfl⟩ := e
      rw [Mu.put_same] at hm
      cases hm
      exact .inr ⟨rfl, rfl, rfl⟩
    · rw [Mu.put_other _ _ e] at hm
      exact .inl hm
  have hkept : ∀ g M, ({ c with lens := keep } : Cells).lenOf g = some M → keep = c.lens ∧ old = c.cs.take L ∧ c.lenOf g = some M := by
    intro g M hM
    rcases hkeep with rfl | ⟨rfl, h2⟩
    · unfold Cells.lenOf at hM
      split at hM <;> simp at hM
    · exact ⟨rfl, h2, hM⟩
  obtain ⟨hor1, hor2, hor3⟩ := (R.obj o _ hg).2
  refine R.step o _ hle (fun o' => Heap.get_put ..) (Nat.le_refl _) (R.obj o _ hg).1 hsz (fun b hb => (hoth b hb).imp id And.left) (fun o' g l hm => ?_) (fun g l hl hm => ?_) (fun g l hm => ?_) ⟨fun g M hM => ?_, ?_, fun g g' M M' l1 l2 hM hM' m1 m2 e => ?_⟩
    (fun oi mo ins seen cur kd es ins' q1 q2 q3 => ?_) hos htape hout
  · rcases hno _ _ _ hm with h1 | ⟨rfl, _, rfl⟩
    · exact .inl h1
    · exact .inr ⟨rfl, hlt⟩
  · rcases hno _ _ _ hm with h1 | ⟨_, _, rfl⟩
    · obtain ⟨M, hM⟩ := hl
      rcases lenOf_next hM with ⟨rfl, _⟩ | ⟨_, hM⟩
      · rw [hnone] at h1; cases h1
      · obtain ⟨_, _, hM⟩ := hkept g M hM
        refine R.mine_live ⟨_, hg, M, hM⟩ h1 ?_
        rintro ⟨x, hx', hr⟩
        rw [hg] at hx'
        cases hx'
        rw [show c.ro = true from hr] at hro
        cases hro
    · exact hmine
  · show g ≤ c.g + 1
    rcases hno _ _ _ hm with h1 | ⟨_, rfl, _⟩
    · have : g ≤ c.g := R.gens o g l _ h1 hg
      omega
    · exact Nat.le_refl _
  · rcases lenOf_next hM with ⟨rfl, rfl⟩ | ⟨hgle, hM⟩
    · exact ⟨l', arr', et', (0, 0), Mu.put_same .., hesz, hblk, fun _ => rfl, Nat.le_refl _, fun i v _ hv => let ⟨x, h1, h2⟩ := hcells i v hv; ⟨x, h1, h2.mono hle⟩, fun _ _ => hkap, fun q => by simp [hsp] at q⟩
    · obtain ⟨hk1, hk2, hM⟩ := hkept g M hM
      obtain ⟨l, arr, et, fz, h1, h2, h3, h4, h5, h6, h7⟩ := hor1 g M hM
      have hML : M ≤ L := by
        rcases lens_cons hlens hM with ⟨_, rfl⟩ | ⟨_, hmem⟩
        · exact Nat.le_refl _
        · rw [hlens] at hor2
          exact (List.pairwise_cons.1 hor2).1 M hmem
      have hLc : L ≤ c.cs.length := by
        obtain ⟨_, _, _, _, _, _, _, _, q, _⟩ := hor1 c.g L (lenOf_last hlens)
        exact q
      have hget : ∀ i, i < M → (old ++ xs)[i]? = c.cs[i]? := by
        intro i hi
        rw [hk2, List.getElem?_append_left (by simp; omega), List.getElem?_take, if_pos (by omega)]
      cases h4 hro
      have hcell' : ∃ arr2 et2, w'.heap[l.blk]? = some (.cells arr2 et2 (0, 0)) ∧ ∀ i, i < M → arr2[l.base + i]? = arr[l.base + i]? := by
        by_cases e : l.blk = l'.blk
        · obtain ⟨hb1, arr0, et0, hb2, hb3⟩ := hbefore g M l hM hk1 h1 e
          rw [h3] at hb2
          cases hb2
          exact ⟨arr', et', by rw [e]; exact hblk, hb3⟩
        · have := (hoth l.blk (R.dom o g l h1).2).resolve_right fun q => e q.2
          exact ⟨arr, et, this.trans h3, fun _ _ => rfl⟩
      obtain ⟨arr2, et2, hb1, hb2⟩ := hcell'
      refine ⟨l, arr2, et2, (0, 0), hle _ _ _ h1, h2, hb1, fun _ => rfl, ?_, fun i v hi hv => ?_, fun q => by simp only at q; omega, fun q => by simp [hsp] at q⟩
      · simp only [List.length_append]
        have : old.length = L := by rw [hk2]; simp; omega
        omega
      · simp only at hv
        rw [hget i hi] at hv
        obtain ⟨x, hx1, hx2⟩ := h6 i v hi hv
        exact ⟨x, by rw [hb2 i hi]; exact hx1, hx2.mono hle⟩
  · rcases hkeep with rfl | ⟨rfl, h2⟩
    · simp
    · have hLc : L ≤ c.cs.length := by
        obtain ⟨_, _, _, _, _, _, _, _, q, _⟩ := hor1 c.g L (lenOf_last hlens)
        exact q
      have hold : old.length = L := by rw [h2]; simp; omega
      rw [List.pairwise_cons]
      refine ⟨fun M hM => ?_, hor2⟩
      have hML : M ≤ L := by
        rw [hlens] at hM hor2
        cases hM with
        | head => exact Nat.le_refl _
        | tail _ hM => exact (List.pairwise_cons.1 hor2).1 M hM
      simp only [List.length_append]
      omega
  · rcases lenOf_next hM with ⟨rfl, rfl⟩ | ⟨q1, hM⟩ <;> rcases lenOf_next hM' with ⟨rfl, rfl⟩ | ⟨q2, hM'⟩
    · rw [m1] at m2; cases m2; rfl
    · obtain ⟨hk1, hk2, hM'⟩ := hkept g' M' hM'
      rcases hno _ _ _ m1 with n1 | ⟨_, _, rfl⟩
      · rw [hnone] at n1; cases n1
      · rcases hno _ _ _ m2 with n2 | ⟨_, n2, _⟩
        · exact ((hbefore g' M' l2 hM' hk1 n2 e.symm).1).symm
        · omega
    · obtain ⟨hk1, hk2, hM⟩ := hkept g M hM
      rcases hno _ _ _ m2 with n2 | ⟨_, _, rfl⟩
      · rw [hnone] at n2; cases n2
      · rcases hno _ _ _ m1 with n1 | ⟨_, n1, _⟩
        · exact (hbefore g M l1 hM hk1 n1 e).1
        · omega
    · obtain ⟨_, _, hM⟩ := hkept g M hM
      obtain ⟨_, _, hM'⟩ := hkept g' M' hM'
      rcases hno _ _ _ m1 with n1 | ⟨_, n1, _⟩
      · rcases hno _ _ _ m2 with n2 | ⟨_, n2, _⟩
        · exact hor3 g g' M M' l1 l2 hM hM' n1 n2 e
        · omega
      · omega
  · rw [Heap.get_put] at q1 q2
    rcases q3 with rfl | rfl
    · rw [if_pos rfl] at q1; cases q1
    · rw [if_pos rfl] at q2; cases q2

/-- A new object in a block that nobody else lies in. -/
theorem Rel.pushAt (R : Rel P K w0 μ h w) (cs : List V) (l : Loc) (arr' : Array Value) (et' : TypeId) (hblk : w'.heap[l.blk]? = some (.cells arr' et' (0, 0))) (hsz : w'.heap.size = w.heap.size) (hoth : ∀ b, b ≠ l.blk → w'.heap[b]? = w.heap[b]?)
    (hmine : Mine K μ h h.next l.blk) (hlt : l.blk < w.heap.size) (hos : w'.os = w.os) (htape : w'.tape = w.tape) (hout : w'.output = w.output)
    (hcells : ∀ (i : Nat) (v : V), cs[i]? = some v → ∃ x, arr'[l.base + i]? = some x ∧ VR μ v x) (hkap : cs.length ≤ l.kap * l.esz ∧ l.base + l.kap * l.esz ≤ arr'.size ∧ 0 < l.esz) :
    Rel P K w0 (μ.put h.next 0 l) (newCells h cs l.esz true) w' := by
  have hle : μ.le (μ.put h.next 0 l) := Mu.le_put l (R.fresh 0)
  have hno : ∀ o' g l', (μ.put h.next 0 l) o' g = some l' → μ o' g = some l' ∨ (o' = h.next ∧ g = 0 ∧ l' = l) := by
    intro o' g l' hm
    by_cases e : o' = h.next ∧ g = 0
    · obtain ⟨rfl, rfl⟩ := e
      rw [Mu.put_same] at hm
      cases hm
      exact .inr ⟨rfl, rfl, rfl⟩
    · rw [Mu.put_other _ _ e] at hm
      exact .inl hm
  refine R.step h.next _ hle (fun o' => Heap.get_push ..) (Nat.le_succ _) (Nat.lt_succ_self _) (by omega) (fun b _ => ?_) (fun o' g l' hm => ?_) (fun g l' _ hm => ?_) (fun g l' hm => ?_) ⟨fun g L hL => ?_, by simp, fun g g' M M' l1 l2 hM hM' m1 m2 _ => ?_⟩
    (fun oi mo ins seen cur kd es ins' q1 q2 q3 => ?_) hos htape hout
  · by_cases e : b = l.blk
    · exact .inr (e ▸ hmine)
    · exact .inl (hoth b e)
  · rcases hno _ _ _ hm with h1 | ⟨rfl, _, rfl⟩
    · exact .inl h1
    · exact .inr ⟨rfl, by omega⟩
  · rcases hno _ _ _ hm with h1 | ⟨_, _, rfl⟩
    · rw [R.fresh] at h1; cases h1
    · exact hmine
  · rcases hno _ _ _ hm with h1 | ⟨_, rfl, rfl⟩
    · rw [R.fresh] at h1; cases h1
    · exact Nat.le_refl 0
  · obtain ⟨rfl, rfl⟩ := lenOf_only rfl hL
    exact ⟨l, arr', et', (0, 0), Mu.put_same .., rfl, hblk, fun _ => rfl, Nat.le_refl _, fun i v _ hv => let ⟨x, h1, h2⟩ := hcells i v hv; ⟨x, h1, h2.mono hle⟩, fun _ _ => hkap, fun q => by cases q⟩
  · obtain ⟨rfl, rfl⟩ := lenOf_only rfl hM
    obtain ⟨rfl, rfl⟩ := lenOf_only rfl hM'
    rw [m1] at m2
    cases m2
    rfl
  · unfold newCells at q1 q2
    rw [Heap.get_push] at q1 q2
    by_cases e : oi = h.next
    · rw [if_pos e] at q1; cases q1
    · rw [if_neg e] at q1
      have e2 : mo = h.next := q3.resolve_left e
      rw [if_pos e2] at q2
      cases q2

theorem appendV_ok (R : Rel P K w0 μ h w) {e esz bytes m : Nat} {s : V} {base : Option Addr} {sLen sCap : Nat} {xs : List V} {ns : List Value} {zc : Array Value} {f : Result Value} (hs : VR μ s (.slice base sLen sCap)) (hx : VRs μ xs ns) (hxl : xs.length = m * esz)
    (hsz : zc.size = esz) (hf : AppSpec P f w e esz bytes base sLen sCap m ns zc) {v : V} (ha : appendV h esz bytes s xs m = some (v, h')) : Res' P K w0 μ f v h' := by
  have hs0 := hs
  cases m with
  | zero =>
    have hns : ns = [] := by
      apply List.eq_nil_of_length_eq_zero
      rw [← hx.length, hxl]
      simp
    subst hns
    have hsv : v = s ∧ h' = h := by
      unfold appendV at ha
      simp only at ha
      split at ha
      · injection ha with ha; injection ha with a1 a2; exact ⟨a1.symm, a2.symm⟩
      · injection ha with ha; injection ha with a1 a2; exact ⟨a1.symm, a2.symm⟩
      · cases ha
    obtain ⟨rfl, rfl⟩ := hsv
    have hle : sLen ≤ sCap := by
      cases hs
      · exact Nat.le_refl _
      · assumption
      · omega
      all_goals (exfalso; simp [appendV] at ha)
    refine ⟨μ, .slice base sLen sCap, w, ?_, Mu.le_refl μ, R, hs⟩
    have := hf.room (by omega) w (by cases base <;> rfl)
    simpa using this
  | succ m' =>
    generalize hm : m' + 1 = m at *
    have hmpos : 0 < m := by omega
    have fresh : ∀ (h0 : Heap) (_ : Rel P K w0 μ h0 w) (old : List V) (olds : List Value), VRs μ old olds → old.length = sLen * esz → (Builtin.firstCells esz sLen (.slice base sLen sCap)).run P w.drew = .ok olds.toArray w.drew → sCap < sLen + m →
        (sLen + m) * bytes ≤ 140737488355328 → 0 < esz → Res' P K w0 μ f (.slice h0.next 0 0 (sLen + m) (.rest 0 esz)) (newCells h0 (old ++ xs) esz true) := by
      intro h0 R0 old olds ho hol hrun hcap hlim hpos
      obtain ⟨cap', hc1, hc2⟩ := hf.grow hcap hlim olds hrun
      rw [hc2]
      exact grown_fresh R0 ho hx hsz hpos (by rw [List.length_append, hol, hxl, Nat.add_mul]) hc1
    subst hm
    unfold appendV at ha
    simp only at ha
    split at ha
    · -- nil
      cases hs
      split at ha <;> try (cases ha; done)
      rename_i nz hlim
      injection ha with ha
      injection ha with ha1 ha2
      subst ha1; subst ha2
      have := fresh h R [] [] .nil (by simp) (by simp [Builtin.firstCells]) (by omega) (by simpa using Nat.le_of_ble_eq_true hlim) (by omega)
      simpa using this
    · rename_i o g off len cap
      split at ha
      · -- a known capacity
        rename_i c
        generalize hb : base = base' at hs
        cases hs with
        | @exact _ _ _ _ _ l hm a haddr hlc =>
          subst hb
          split at ha
          · rename_i hle
            have hle := Nat.le_of_ble_eq_true hle
            split at ha <;> try (cases ha; done)
            rename_i h1 hw
            injection ha with ha
            injection ha with ha1 ha2
            subst ha1; subst ha2
            have hnorm : a = ⟨l.blk, l.base + off, none⟩ := by
              rcases haddr with q | ⟨q1, q2⟩
              · exact q
              · omega
            subst hnorm
            obtain ⟨w', g1, g2⟩ := R.write hw hx hm
            refine ⟨μ, _, w', hf.room hle w' ?_, Mu.le_refl μ, g2, .exact hm _ (.inl rfl) hle⟩
            simp only [addr_add]
            rw [show l.base + off + sLen * esz = l.base + (off + sLen * esz) from by omega]
            exact g1
          · rename_i hle
            have hle : ¬ sLen + (m' + 1) ≤ sCap := fun q => by rw [Nat.ble_eq_true_of_le q] at hle; cases hle
            split at ha <;> try (cases ha; done)
            rename_i old hr
            split at ha <;> try (cases ha; done)
            rename_i nz hlim
            injection ha with ha
            injection ha with ha1 ha2
            subst ha1; subst ha2
            obtain ⟨olds, q1, q2⟩ := elems_run (P := P) R hs0 (n := sLen) (m := sLen) (xs := old) rfl (Nat.le_refl _) hr
            have q5 : old.length = sLen * (nz + 1) := by
              obtain ⟨_, _, q, _⟩ := R.read hr hm
              exact q
            exact fresh h R old olds q1 q5 (q2 w.drew rfl) (by omega) (Nat.le_of_ble_eq_true hlim) (by omega)
      · -- what is behind the last generation
        rename_i k ek
        split at ha <;> try (cases ha; done)
        rename_i c hcells
        have hg : h.get o = some (.cells c) := by
          unfold Heap.cells? at hcells
          split at hcells <;> try (cases hcells; done)
          injection hcells with hcells
          subst hcells
          assumption
        split at ha <;> try (cases ha; done)
        rename_i L r hcond hlens
        simp only [Bool.and_eq_true, Bool.not_eq_true'] at hcond
        obtain ⟨⟨⟨hspare, hgen⟩, hesz⟩, hro⟩ := hcond
        have hgen := Nat.eq_of_beq_eq_true hgen
        have hesz := Nat.eq_of_beq_eq_true hesz
        subst hgen
        generalize hb : base = base' at hs
        generalize hsc : sCap = sCap' at hs
        cases hs with
        | @rest _ _ _ _ _ e0 l hm a haddr hn hoff he0 =>
          subst hb; subst hsc
          have hL := lenOf_last hlens
          obtain ⟨hor1, hor2, hor3⟩ := (R.obj o _ hg).2
          obtain ⟨l1, arr, et, fz, e1, e2, e3, e4, e5, e6, e7⟩ := hor1 c.g L hL
          rw [hm] at e1
          cases e1
          cases e4 hro
          obtain ⟨e8, e9, e10⟩ := e7.1 rfl hspare
          have hez : l.esz = esz := e2.trans hesz
          have hxl' := hx.length
          have hnorm : sLen + (m' + 1) ≤ l.kap - k → a = ⟨l.blk, l.base + off, none⟩ := fun q => by
            rcases haddr with h | ⟨h1, h2⟩
            · exact h
            · omega
          subst he0
          have hko : off = k * esz := by rw [hoff, hez]
          split at ha
          · -- within what is known
            rename_i hle
            have hle := Nat.le_of_ble_eq_true hle
            split at ha <;> try (cases ha; done)
            rename_i h1 hw
            injection ha with ha
            injection ha with ha1 ha2
            subst ha1; subst ha2
            have hroom : sLen + (m' + 1) + k ≤ l.kap := by
              have : (k + (sLen + (m' + 1))) * esz ≤ l.kap * esz := by rw [Nat.add_mul, ← hko, ← hez]; rw [← hez] at hle; omega
              have := Nat.le_of_mul_le_mul_right this (by omega)
              omega
            have ha := hnorm (by omega)
            subst ha
            obtain ⟨w', g1, g2⟩ := R.write hw hx hm
            refine ⟨μ, _, w', hf.room (by omega) w' ?_, Mu.le_refl μ, g2, .rest hm _ (.inl rfl) (by omega) hoff rfl⟩
            simp only [addr_add]
            rw [show l.base + off + sLen * esz = l.base + (off + sLen * esz) from by omega]
            exact g1
          · rename_i hle
            split at ha <;> try (cases ha; done)
            rename_i old nz hcond2 _ hr
            simp only [Bool.and_eq_true] at hcond2
            simp only [Nat.succ_eq_add_one] at *
            obtain ⟨hlim, hones⟩ := hcond2
            have hlim := Nat.le_of_ble_eq_true hlim
            obtain ⟨olds, q1, q2⟩ := elems_run (P := P) R hs0 (n := sLen) (m := sLen) (esz := nz + 1) (xs := old) rfl (Nat.le_refl _) hr
            have hrun := q2 w.drew rfl
            have hold : old.length = sLen * (nz + 1) := by
              obtain ⟨_, _, q, _⟩ := R.read hr hm
              exact q
            have holds := q1.length
            obtain ⟨c2, L2, r1, r2, r3, r4⟩ := readCells_some hr
            rw [hg] at r1
            cases r1
            rw [hL] at r2
            cases r2
            have hcur : ∀ (i : Nat) (v : V), old[i]? = some v → ∃ x, arr[l.base + off + i]? = some x ∧ VR μ v x := by
              intro i v hv
              have hi := (List.getElem?_eq_some_iff.1 hv).1
              rw [r4, List.getElem?_take, if_pos (by omega), List.getElem?_drop] at hv
              have := e6 (off + i) v (by omega) hv
              rwa [← Nat.add_assoc] at this
            -- where there is room: what the cells come to
            have stored : sLen + (m' + 1) ≤ l.kap - k → ∃ w' arr', (storeCells ⟨l.blk, l.base + off + sLen * (nz + 1), none⟩ ns).run P w = .ok () w' ∧ w'.heap[l.blk]? = some (.cells arr' et (0, 0)) ∧ arr'.size = arr.size ∧
                (∀ j, arr'[j]? = if l.base + off + sLen * (nz + 1) ≤ j ∧ j < l.base + off + sLen * (nz + 1) + ns.length then ns[j - (l.base + off + sLen * (nz + 1))]? else arr[j]?) ∧
                (∀ b', b' ≠ l.blk → w'.heap[b']? = w.heap[b']?) ∧ w'.heap.size = w.heap.size ∧ w'.os = w.os ∧ w'.tape = w.tape ∧ w'.output = w.output := by
              intro q
              have hfit : (k + (sLen + (m' + 1))) * (nz + 1) ≤ l.kap * (nz + 1) := Nat.mul_le_mul_right _ (by omega)
              rw [hez] at e9
              have h5 : (k + (sLen + (m' + 1))) * (nz + 1) = k * (nz + 1) + sLen * (nz + 1) + (m' + 1) * (nz + 1) := by rw [Nat.add_mul, Nat.add_mul]; omega
              obtain ⟨w', arr', g1, g2, g3, g4, g5⟩ := run_storeCells (P := P) (b := l.blk) (off := l.base + off + sLen * (nz + 1)) ns 0 w arr e3 (fun _ => by omega) (hx.ones hones)
              exact ⟨w', arr', g1, g2, g3, by simpa using g4, g5⟩
            split at ha
            · -- the array's begin
              injection ha with ha
              injection ha with ha1 ha2
              subst ha1; subst ha2
              have hk0 : k = 0 := by
                rcases Nat.eq_zero_or_pos k with q | q
                · exact q
                · have q2 : 0 < k * (nz + 1) := Nat.mul_pos q (Nat.succ_pos nz)
                  omega
              subst hk0
              have hkeep : (match Nat.beq (sLen * (nz + 1)) L with | true => L :: r | false => []) = [] ∨ ((match Nat.beq (sLen * (nz + 1)) L with | true => L :: r | false => []) = c.lens ∧ old = c.cs.take L) := by
                cases hb : Nat.beq (sLen * (nz + 1)) L with
                | false => exact .inl rfl
                | true =>
                  have := Nat.eq_of_beq_eq_true hb
                  exact .inr ⟨hlens.symm, by rw [r4, this]; simp⟩
              have hkeepL : (match Nat.beq (sLen * (nz + 1)) L with | true => L :: r | false => []) = c.lens → sLen * (nz + 1) = L := by
                intro q
                cases hb : Nat.beq (sLen * (nz + 1)) L with
                | false => rw [hb, hlens] at q; cases q
                | true => exact Nat.eq_of_beq_eq_true hb
              by_cases hroom : sLen + (m' + 1) ≤ l.kap - 0
              · have ha := hnorm hroom
                subst ha
                obtain ⟨w', arr', g1, g2, g3, g4, g5, g6, g7, g8, g9⟩ := stored hroom
                have hlive : Live h o c.g := ⟨_, hg, L, hL⟩
                have hnro : ¬ isRo h o := by
                  rintro ⟨x, hx', hr'⟩
                  rw [hg] at hx'
                  cases hx'
                  rw [show c.ro = true from hr'] at hro
                  cases hro
                have hmine := R.mine_live hlive hm hnro
                refine ⟨μ.put o (c.g + 1) l, .slice (some ⟨l.blk, l.base + 0, none⟩) (sLen + (m' + 1)) (l.kap - 0), w', hf.room hroom w' (by simp only [addr_add]; exact g1), ?_, R.nextGen hg hro hspare hlens hkeep (l' := l) (arr' := arr') (et' := et) e2 g2 (by omega) (fun b hb => ?_) hmine (by have := (R.dom _ _ _ hm).2; omega) g7 g8 g9 (fun i v hv => ?_) ⟨?_, by rw [g3]; exact e9, e10⟩ (fun g M l2 hM hk hm2 e => ?_), ?_⟩
                · refine Mu.le_put l ?_
                  cases hm2 : μ o (c.g + 1) with
                  | none => rfl
                  | some l2 =>
                    have q : c.g + 1 ≤ c.g := R.gens o _ l2 _ hm2 hg
                    omega
                · by_cases e : b = l.blk
                  · exact .inr ⟨e ▸ hmine, e⟩
                  · exact .inl (g5 b e)
                · rw [g4]
                  by_cases hi : i < old.length
                  · rw [List.getElem?_append_left hi] at hv
                    rw [if_neg (by omega)]
                    simpa using hcur i v hv
                  · rw [List.getElem?_append_right (by omega)] at hv
                    have hi2 := (List.getElem?_eq_some_iff.1 hv).1
                    rw [if_pos (by omega), show l.base + i - (l.base + 0 + sLen * (nz + 1)) = i - old.length from by omega]
                    exact hx.get hv
                · rw [List.length_append, hold, hxl, ← Nat.add_mul, hez]
                  exact Nat.mul_le_mul_right _ (by omega)
                · have hb := hor3 g c.g M L l2 l hM hL hm2 hm e
                  refine ⟨hb, arr, et, by rw [e]; exact e3, fun i hi => ?_⟩
                  have hML : M ≤ L := by
                    rcases lens_cons hlens hM with ⟨_, rfl⟩ | ⟨_, hmem⟩
                    · exact Nat.le_refl _
                    · rw [hlens] at hor2
                      exact (List.pairwise_cons.1 hor2).1 M hmem
                  have := hkeepL hk
                  rw [g4, if_neg (by omega)]
                · have := VR.rest (μ := μ.put o (c.g + 1) l) (o := o) (g := c.g + 1) (off := 0) (len := sLen + (m' + 1)) (n := 0) (Mu.put_same ..) ⟨l.blk, l.base + 0, none⟩ (.inl rfl) (by omega) (by simp) hez
                  exact this
              · obtain ⟨cap', hc1, hc2⟩ := hf.grow (by omega) hlim olds hrun
                have happ := q1.append hx
                have hal := happ.length
                have hmul : (sLen + (m' + 1)) * (nz + 1) + (cap' - (sLen + (m' + 1))) * (nz + 1) = cap' * (nz + 1) := by rw [← Nat.add_mul]; congr 1; omega
                have hapl : (old ++ xs).length = (sLen + (m' + 1)) * (nz + 1) := by rw [List.length_append, hold, hxl, ← Nat.add_mul]
                refine ⟨μ.put o (c.g + 1) ⟨w.heap.size, 0, cap', nz + 1⟩, _, _, hc2, ?_, R.nextGen hg hro hspare hlens hkeep (l' := ⟨w.heap.size, 0, cap', nz + 1⟩) (arr' := olds.toArray ++ ns.toArray ++ Builtin.zeroCells zc (cap' - (sLen + (m' + 1)))) (et' := e) hesz.symm ?_ ?_ (fun b hb => .inl ?_) (R.mine_fresh _ (Nat.le_refl _)) ?_ rfl rfl rfl (fun i v hv => ?_) ⟨?_, ?_, Nat.succ_pos _⟩ (fun g M l2 hM hk hm2 e' => ?_), ?_⟩
                · refine Mu.le_put _ ?_
                  cases hm2 : μ o (c.g + 1) with
                  | none => rfl
                  | some l2 =>
                    have q : c.g + 1 ≤ c.g := R.gens o _ l2 _ hm2 hg
                    omega
                · show (w.heap.push _)[w.heap.size]? = _
                  simp
                · show w.heap.size ≤ (w.heap.push _).size
                  simp
                · show (w.heap.push _)[b]? = _
                  rw [Array.getElem?_push, if_neg (by omega)]
                · show w.heap.size < (w.heap.push _).size
                  simp
                · obtain ⟨y, h1, h2⟩ := happ.get hv
                  refine ⟨y, ?_, h2⟩
                  have hlt := (List.getElem?_eq_some_iff.1 h1).1
                  simp only [Nat.zero_add]
                  rw [Array.getElem?_append_left (by simp at hlt ⊢; omega), ← h1]
                  simp
                · rw [hapl]; exact Nat.mul_le_mul_right _ hc1
                · simp only [Array.size_append, size_zc, hsz]
                  simp only [List.length_append] at hal hapl
                  simp
                  omega
                · have := (R.dom _ _ _ hm2).2
                  simp only at e'
                  omega
                · have := VR.rest (μ := μ.put o (c.g + 1) ⟨w.heap.size, 0, cap', nz + 1⟩) (o := o) (g := c.g + 1) (off := 0) (len := sLen + (m' + 1)) (n := 0) (Mu.put_same ..) ⟨w.heap.size, 0, none⟩ (.inl rfl) (by simpa using hc1) (by simp) rfl
                  simpa using this
            · -- behind its begin: another object, the old one not read any more
              rename_i off'
              injection ha with ha
              injection ha with ha1 ha2
              subst ha1; subst ha2
              have R0 := R.kill hg
              by_cases hroom : sLen + (m' + 1) ≤ l.kap - k
              · have ha := hnorm hroom
                subst ha
                obtain ⟨w', arr', g1, g2, g3, g4, g5, g6, g7, g8, g9⟩ := stored hroom
                have hlive : Live h o c.g := ⟨_, hg, L, hL⟩
                have hnro : ¬ isRo h o := by
                  rintro ⟨x, hx', hr'⟩
                  rw [hg] at hx'
                  cases hx'
                  rw [show c.ro = true from hr'] at hro
                  cases hro
                have hmine := R.mine_live hlive hm hnro
                have hmine0 : Mine K μ (h.put o (.cells { c with lens := [] })) h.next l.blk := by
                  refine ⟨hmine.1, fun o' g' l2 hne ⟨x, hx1, hx2⟩ hm2 => ?_⟩
                  rw [Heap.get_put] at hx1
                  by_cases eo : o' = o
                  · rw [if_pos eo] at hx1
                    cases hx1
                    obtain ⟨M, hM⟩ := hx2
                    unfold Cells.lenOf at hM
                    split at hM <;> simp at hM
                  · rw [if_neg eo] at hx1
                    exact hmine.2 o' g' l2 eo ⟨x, hx1, hx2⟩ hm2
                have hfit : (sLen + (m' + 1)) * (nz + 1) ≤ (l.kap - k) * (nz + 1) := Nat.mul_le_mul_right _ hroom
                have hkk : (l.kap - k) * (nz + 1) + k * (nz + 1) = l.kap * (nz + 1) := by rw [← Nat.add_mul]; congr 1; omega
                have hpush := R0.pushAt (w' := w') (old ++ xs) ⟨l.blk, l.base + (off' + 1), l.kap - k, nz + 1⟩ arr' et g2 g6 g5 hmine0 (R.dom _ _ _ hm).2 g7 g8 g9 (fun i v hv => ?_) ⟨?_, ?_, Nat.succ_pos _⟩
                · refine ⟨_, _, w', hf.room hroom w' (by simp only [addr_add]; exact g1), Mu.le_put _ (R0.fresh 0), hpush, ?_⟩
                  have := VR.rest (μ := μ.put h.next 0 ⟨l.blk, l.base + (off' + 1), l.kap - k, nz + 1⟩) (o := h.next) (g := 0) (off := 0) (len := sLen + (m' + 1)) (n := 0) (Mu.put_same ..) ⟨l.blk, l.base + (off' + 1), none⟩ (.inl rfl) (by simpa using hroom) (by simp) rfl
                  simpa using this
                · simp only
                  rw [g4]
                  by_cases hi : i < old.length
                  · rw [List.getElem?_append_left hi] at hv
                    rw [if_neg (by omega)]
                    exact hcur i v hv
                  · rw [List.getElem?_append_right (by omega)] at hv
                    have hi2 := (List.getElem?_eq_some_iff.1 hv).1
                    rw [if_pos (by omega), show l.base + (off' + 1) + i - (l.base + (off' + 1) + sLen * (nz + 1)) = i - old.length from by omega]
                    exact hx.get hv
                · rw [List.length_append, hold, hxl, ← Nat.add_mul]
                  exact hfit
                · simp only
                  rw [g3]
                  rw [hez] at e9
                  omega
              · exact fresh _ R0 old olds q1 hold hrun (by omega) hlim (Nat.succ_pos _)
    · cases ha
end
end Go.Xr
