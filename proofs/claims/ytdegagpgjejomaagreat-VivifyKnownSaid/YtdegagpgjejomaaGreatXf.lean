/- Reading, writing and making cells: X's heap and the machine's world go together. -/
import Derived.Test.YtdegagpgjejomaaGreatXe
namespace Go.Xr
open Go.RowKit

theorem addr_add (b off j : Nat) : (⟨b, off, none⟩ : Addr).add j = ⟨b, off + j, none⟩ := by
  unfold Addr.add
  split
  · rename_i h; subst h; rfl
  · rfl

theorem cell_of_block {w : World} {b i : Nat} {arr : Array Value} {et : TypeId} {fz : Nat × Nat} (h : w.heap[b]? = some (.cells arr et fz)) : w.cell? ⟨b, i, none⟩ = arr[i]? := by
  simp [World.cell?, h]

theorem frozen_of_block {w : World} {b i : Nat} {arr : Array Value} {et : TypeId} (h : w.heap[b]? = some (.cells arr et (0, 0))) : w.frozen? ⟨b, i, none⟩ = false := by
  simp [World.frozen?, h]

theorem over_length : ∀ (cs : List V) (i : Nat) (vs : List V), (over cs i vs).length = cs.length
  | [], _, [] => by simp [over]
  | [], _, _ :: _ => by simp [over]
  | _ :: _, 0, [] => by simp [over]
  | _ :: _, _ + 1, [] => by simp [over]
  | _ :: cs, 0, _ :: vs => by simp [over, over_length cs 0 vs]
  | _ :: cs, i + 1, v :: vs => by simp [over, over_length cs i (v :: vs)]

theorem over_nil (cs : List V) (i : Nat) : over cs i [] = cs := by cases cs <;> cases i <;> rfl

theorem over_get : ∀ (cs : List V) (i : Nat) (vs : List V) (j : Nat), i + vs.length ≤ cs.length → (over cs i vs)[j]? = if i ≤ j ∧ j < i + vs.length then vs[j - i]? else cs[j]?
  | cs, i, [], j, _ => by rw [over_nil, if_neg (by simp)]
  | [], i, v :: vs, j, h => by simp at h
  | c :: cs, 0, v :: vs, 0, h => by simp [over]
  | c :: cs, 0, v :: vs, j + 1, h => by
    simp only [over, List.getElem?_cons_succ]
    rw [over_get cs 0 vs j (by simp at h ⊢; omega)]
    by_cases e : j < vs.length
    · rw [if_pos (by omega), if_pos (by simp; omega)]; simp
    · rw [if_neg (by omega), if_neg (by simp; omega)]
  | c :: cs, i + 1, v :: vs, 0, h => by
    simp only [over]; rw [if_neg (by omega)]; simp
  | c :: cs, i + 1, v :: vs, j + 1, h => by
    simp only [over, List.getElem?_cons_succ]
    rw [over_get cs i (v :: vs) j (by simp at h ⊢; omega)]
    by_cases e : i ≤ j ∧ j < i + (v :: vs).length
    · rw [if_pos e, if_pos (by omega)]; congr 1; omega
    · rw [if_neg e, if_neg (by omega)]

/-! ## Reading -/
theorem readCells_some {h : Heap} {o g off n : Nat} {vs : List V} (hr : readCells h o g off n = some vs) :
    ∃ c L, h.get o = some (.cells c) ∧ c.lenOf g = some L ∧ off + n ≤ L ∧ vs = (c.cs.drop off).take n := by
  unfold readCells Heap.cells? at hr
  cases hg : h.get o with
  | none => simp [hg] at hr
  | some x =>
    cases x with
    | cells c =>
      simp only [hg] at hr
      cases hL : c.lenOf g with
      | none => simp [hL] at hr
      | some L =>
        simp only [hL] at hr
        cases hb : Nat.ble (off + n) L with
        | false => simp [hb] at hr
        | true =>
          simp only [hb] at hr
          exact ⟨c, L, rfl, hL, Nat.le_of_ble_eq_true hb, by cases hr; rfl⟩
    | _ => simp [hg] at hr

section
variable [RoLim] {P : Program} {K : Nat → Prop} {w0 : World} {μ μ' : Mu} {h h' : Heap} {w w' : World}

theorem Rel.cellsAt (R : Rel P K w0 μ h w) {o g L : Nat} {c : Cells} (hg : h.get o = some (.cells c)) (hL : c.lenOf g = some L) : CellsAt μ w c o g L := (R.obj o _ hg).2.1 g L hL

theorem Rel.read (R : Rel P K w0 μ h w) {o g off n : Nat} {vs : List V} (hr : readCells h o g off n = some vs) {l : Loc} (hm : μ o g = some l) :
    ∃ xs, VRs μ vs xs ∧ vs.length = n ∧ xs.length = n ∧ ∀ (j : Nat) x, xs[j]? = some x → w.cell? ⟨l.blk, l.base + off + j, none⟩ = some x := by
  obtain ⟨c, L, hg, hL, hle, rfl⟩ := readCells_some hr
  obtain ⟨l', arr, et, fz, h1, h2, hblk, h4, h5, h6, h7⟩ := R.cellsAt hg hL
  rw [hm] at h1
  cases h1
  have hlen : ((c.cs.drop off).take n).length = n := by simp; omega
  have hget : ∀ j, j < n → ∃ v x, ((c.cs.drop off).take n)[j]? = some v ∧ ((arr.toList.drop (l.base + off)).take n)[j]? = some x ∧ arr[l.base + off + j]? = some x ∧ VR μ v x := by
    intro j hj
    have hj2 : off + j < c.cs.length := by omega
    obtain ⟨x, hx, hv⟩ := h6 (off + j) c.cs[off + j] (by omega) (List.getElem?_eq_getElem hj2)
    refine ⟨c.cs[off + j], x, ?_, ?_, ?_, hv⟩
    · rw [List.getElem?_take, if_pos hj, List.getElem?_drop, List.getElem?_eq_getElem hj2]
    · rw [List.getElem?_take, if_pos hj, List.getElem?_drop, Array.getElem?_toList, ← hx]; congr 1; omega
    · rw [← hx]; congr 1; omega
  have hlen' : ((arr.toList.drop (l.base + off)).take n).length = n := by
    cases n with
    | zero => simp
    | succ n =>
      obtain ⟨v, x, _, hx, _⟩ := hget n (by omega)
      have := (List.getElem?_eq_some_iff.1 hx).1
      have h2 := List.length_take_le (n + 1) (arr.toList.drop (l.base + off))
      omega
  refine ⟨(arr.toList.drop (l.base + off)).take n, VRs.of_get _ _ (by rw [hlen, hlen']) fun j v x e e' => ?_, hlen, hlen', fun j x e => ?_⟩
  · have hj : j < n := by have := (List.getElem?_eq_some_iff.1 e).1; omega
    obtain ⟨v', x', h1, h2, _, h3⟩ := hget j hj
    rw [h1] at e; rw [h2] at e'
    cases e; cases e'
    exact h3
  · have hj : j < n := by have := (List.getElem?_eq_some_iff.1 e).1; omega
    obtain ⟨v', x', _, h2, h3, _⟩ := hget j hj
    rw [h2] at e
    cases e
    rw [cell_of_block hblk]
    exact h3

omit [RoLim] in
theorem run_loadCells_read {b off : Nat} {xs : List Value} (hx : ∀ (j : Nat) x, xs[j]? = some x → w.cell? ⟨b, off + j, none⟩ = some x) : (loadCells ⟨b, off, none⟩ xs.length).run P w = .ok xs.toArray w :=
  run_loadCells_list w _ _ fun j v hv => by rw [addr_add]; exact hx j v hv

/-! ## Writing -/
omit [RoLim] in
theorem run_storeCells {b off : Nat} {et : TypeId} : ∀ (xs : List Value) (i : Nat) (w : World) (arr : Array Value), w.heap[b]? = some (.cells arr et (0, 0)) → (xs ≠ [] → off + i + xs.length ≤ arr.size) →
    (∀ x ∈ xs, x.oneCell' = true) →
    ∃ w' arr', (storeCells ⟨b, off, none⟩ xs i).run P w = .ok () w' ∧ w'.heap[b]? = some (.cells arr' et (0, 0)) ∧ arr'.size = arr.size ∧
      (∀ j, arr'[j]? = if off + i ≤ j ∧ j < off + i + xs.length then xs[j - (off + i)]? else arr[j]?) ∧
      (∀ b', b' ≠ b → w'.heap[b']? = w.heap[b']?) ∧ w'.heap.size = w.heap.size ∧ w'.os = w.os ∧ w'.tape = w.tape ∧ w'.output = w.output
  | [], i, w, arr, hb, _, _ => ⟨w, arr, rfl, hb, rfl, fun j => by rw [if_neg (by simp)], fun _ _ => rfl, rfl, rfl, rfl, rfl⟩
  | x :: xs, i, w, arr, hb, hs, ho => by
    have hs := hs (by simp)
    simp only [List.length_cons] at hs
    have hlt : off + i < arr.size := by omega
    have hcell : w.cell? ⟨b, off + i, none⟩ = some arr[off + i] := by rw [cell_of_block hb]; simp
    have hb1 : (w.setCell ⟨b, off + i, none⟩ x).heap[b]? = some (.cells (arr.setIfInBounds (off + i) x) et (0, 0)) := by
      simp [World.setCell, Array.getElem?_modify, hb]
    obtain ⟨w', arr', h1, h2, h3, h4, h5, h6, h7, h8, h9⟩ := run_storeCells (off := off) xs (i + 1) (w.setCell ⟨b, off + i, none⟩ x) (arr.setIfInBounds (off + i) x) hb1 (fun _ => by simp only [Array.size_setIfInBounds]; omega) fun y hy => ho y (List.mem_cons_of_mem _ hy)
    refine ⟨w', arr', ?_, h2, by simpa using h3, fun j => ?_, fun b' hb' => ?_, by simpa using h6, h7, h8, h9⟩
    · unfold storeCells
      rw [Sem.run_bind, addr_add, run_store P w _ x .plain (ho x (List.mem_cons_self ..)), hcell]
      simp only [frozen_of_block hb, Bool.false_eq_true, if_false, Result.andThen_ok]
      exact h1
    · rw [h4 j]
      by_cases e : off + (i + 1) ≤ j ∧ j < off + (i + 1) + xs.length
      · rw [if_pos e, if_pos (by simp; omega)]
        rw [show j - (off + i) = (j - (off + (i + 1))) + 1 from by omega, List.getElem?_cons_succ]
      · rw [if_neg e]
        by_cases e2 : j = off + i
        · subst e2
          rw [if_pos (by simp)]
          simp [hlt]
        · rw [if_neg (by simp; omega), Array.getElem?_setIfInBounds, if_neg (by omega)]
    · rw [h5 b' hb']
      exact Below.heap_setCell _ _ _ _ hb'

omit [RoLim] in
theorem lenOf_last {c : Cells} {L : Nat} {r : List Nat} (h : c.lens = L :: r) : c.lenOf c.g = some L := by
  unfold Cells.lenOf
  rw [show Nat.ble c.g c.g = true from Nat.ble_self_eq_true c.g]
  show c.lens[c.g - c.g]? = some L
  rw [Nat.sub_self, h]; rfl

omit [RoLim] in
theorem lenOf_only {c : Cells} {L g M : Nat} (h : c.lens = [L]) (hg : c.lenOf g = some M) : g = c.g ∧ M = L := by
  unfold Cells.lenOf at hg
  cases hb : Nat.ble g c.g with
  | false => simp [hb] at hg
  | true =>
    simp only [hb] at hg
    have hle := Nat.le_of_ble_eq_true hb
    rw [h, show Nat.sub c.g g = c.g - g from rfl] at hg
    have hlt := (List.getElem?_eq_some_iff.1 hg).1
    simp at hlt
    have : c.g - g = 0 := by omega
    rw [this] at hg
    simp at hg
    exact ⟨by omega, hg.symm⟩

omit [RoLim] in
theorem lenOf_le {c : Cells} {g M : Nat} (hg : c.lenOf g = some M) : g ≤ c.g := by
  unfold Cells.lenOf at hg
  cases hb : Nat.ble g c.g with
  | false => simp [hb] at hg
  | true => exact Nat.le_of_ble_eq_true hb

omit [RoLim] in
theorem writeCells_some {o g off : Nat} {vs : List V} (hw : writeCells h o g off vs = some h') :
    ∃ c L r, h.get o = some (.cells c) ∧ c.ro = false ∧ g = c.g ∧ c.lens = L :: r ∧ off + vs.length ≤ L ∧ vs.all V.one = true ∧ h' = h.put o (.cells { c with cs := over c.cs off vs, lens := [L] }) := by
  unfold writeCells Heap.cells? at hw
  cases hg : h.get o with
  | none => simp [hg] at hw
  | some x =>
    cases x with
    | cells c =>
      simp only [hg] at hw
      cases h1 : c.ro <;> cases h2 : Nat.beq g c.g <;> cases h3 : c.lens <;> simp only [h1, h2, h3] at hw <;> try (cases hw; done)
      rename_i L r
      cases h4 : (Nat.ble (off + vs.length) L && vs.all V.one) with
      | false => simp [h4] at hw
      | true =>
        simp only [h4, Option.some.injEq] at hw
        rw [Bool.and_eq_true] at h4
        exact ⟨c, L, r, rfl, h1, Nat.eq_of_beq_eq_true h2, h3, Nat.le_of_ble_eq_true h4.1, h4.2, by rw [← hw, h1]⟩
    | _ => simp [hg] at hw

omit [RoLim] in
theorem VRs.ones : ∀ {vs : List V} {xs : List Value}, VRs μ vs xs → vs.all V.one = true → ∀ x ∈ xs, x.oneCell' = true
  | _, _, .nil, _, x, hx => by cases hx
  | _, _, .cons h h', ho, x, hx => by
    simp only [List.all_cons, Bool.and_eq_true] at ho
    cases hx with
    | head => exact h.one ho.1
    | tail _ hx => exact VRs.ones h' ho.2 x hx

/-- Cells written into the last generation: what is put in o's place, o's block turned. -/
theorem Rel.write (R : Rel P K w0 μ h w) {o g off : Nat} {vs : List V} {xs : List Value} {l : Loc} (hw : writeCells h o g off vs = some h') (hx : VRs μ vs xs) (hm : μ o g = some l) :
    ∃ w', (storeCells ⟨l.blk, l.base + off, none⟩ xs).run P w = .ok () w' ∧ Rel P K w0 μ h' w' := by
  obtain ⟨c, L, r, hg, hro, rfl, hlens, hle, hone, rfl⟩ := writeCells_some hw
  have hL := lenOf_last hlens
  obtain ⟨l', arr, et, fz, h1, h2, hblk, h4, h5, h6, h7⟩ := R.cellsAt hg hL
  rw [hm] at h1
  cases h1
  cases h4 hro
  have hxl := hx.length
  have hsz : xs ≠ [] → l.base + off + 0 + xs.length ≤ arr.size := by
    intro hne
    have hpos : 0 < xs.length := List.length_pos_iff.2 hne
    have hi : off + xs.length - 1 < c.cs.length := by omega
    obtain ⟨x, hx1, _⟩ := h6 (off + xs.length - 1) _ (by omega) (List.getElem?_eq_getElem hi)
    have := (Array.getElem?_eq_some_iff.1 hx1).1
    omega
  obtain ⟨w', arr', g1, g2, g3, g4, g5, g6, g7, g8, g9⟩ := run_storeCells (P := P) (b := l.blk) (off := l.base + off) xs 0 w arr hblk hsz (hx.ones hone)
  have hlive : Live h o c.g := ⟨_, hg, L, hL⟩
  have hnro : ¬ isRo h o := by
    rintro ⟨x, hx', hr⟩
    rw [hg] at hx'
    cases hx'
    rw [show c.ro = true from hr] at hro
    cases hro
  have hmine := R.mine_live hlive hm hnro
  refine ⟨w', g1, R.step o (.cells { c with cs := over c.cs off vs, lens := [L] }) (Mu.le_refl μ) (fun o' => Heap.get_put ..) (Nat.le_refl _) (R.obj o _ hg).1 (by omega) (fun b _ => ?_)
    (fun o' g l' hm' => .inl hm') (fun g l' hl' hm' => ?_) (fun g l' hm' => (R.gens o g l' _ hm' hg : g ≤ c.g)) ?_ (fun oi mo ins seen cur kd es ins' q1 q2 q3 => ?_) g7 g8 g9⟩
  · by_cases e : b = l.blk
    · exact .inr (e ▸ hmine)
    · exact .inl (g5 b e)
  · obtain ⟨M, hM⟩ := hl'
    obtain ⟨rfl, rfl⟩ := lenOf_only rfl hM
    rw [hm] at hm'
    cases hm'
    exact hmine
  · refine ⟨fun g M hM => ?_, by simp, fun g g' M M' l1 l2 hM hM' m1 m2 _ => ?_⟩
    rotate_left
    · obtain ⟨rfl, rfl⟩ := lenOf_only rfl hM
      obtain ⟨rfl, rfl⟩ := lenOf_only rfl hM'
      rw [m1] at m2
      cases m2
      rfl
    obtain ⟨rfl, rfl⟩ := lenOf_only rfl hM
    refine ⟨l, arr', et, (0, 0), hm, h2, g2, fun _ => rfl, by rw [over_length]; exact h5, fun i v hi hv => ?_, fun q1 q2 => ?_, h7.2⟩
    · rw [over_get _ _ _ _ (by omega)] at hv
      rw [g4]
      by_cases e : off ≤ i ∧ i < off + vs.length
      · rw [if_pos e] at hv
        rw [if_pos (by omega), show l.base + i - (l.base + off + 0) = i - off from by omega]
        exact hx.get hv
      · rw [if_neg e] at hv
        rw [if_neg (by omega)]
        exact h6 i v hi hv
    · rw [g3]
      exact h7.1 q1 q2
  · rw [Heap.get_put] at q1 q2
    rcases q3 with rfl | rfl
    · rw [if_pos rfl] at q1
      cases q1
    · rw [if_pos rfl] at q2
      cases q2

/-! ## Making -/
theorem Rel.fresh (R : Rel P K w0 μ h w) (g : Nat) : μ h.next g = none := by
  cases hm : μ h.next g with
  | none => rfl
  | some l => exact absurd (R.dom _ _ _ hm).1 (Nat.lt_irrefl _)

theorem Rel.push (R : Rel P K w0 μ h w) (x : XObj) (l : Loc) (hblk : l.blk = w.heap.size) {obj : Obj} (hw : w'.heap = w.heap.push obj) (hos : w'.os = w.os) (htape : w'.tape = w.tape) (hout : w'.output = w.output)
    (hg : genX x 0) (hor : OR P (μ.put h.next 0 l) w' h.next x)
    (hit : ∀ mo ins seen cur kd es ins', x = .miter (some mo) ins seen cur → h.get mo = some (.map kd es ins') → ins ≤ ins' ∧ (ins = ins' → IterOk (μ.put h.next 0 l) w' kd mo h.next seen cur)) :
    Rel P K w0 (μ.put h.next 0 l) (h.push x) w' := by
  have hle : μ.le (μ.put h.next 0 l) := Mu.le_put l (R.fresh 0)
  have hno : ∀ o' g l', (μ.put h.next 0 l) o' g = some l' → μ o' g = some l' ∨ (o' = h.next ∧ g = 0 ∧ l' = l) := by
    intro o' g l' hm
    by_cases e : o' = h.next ∧ g = 0
    · obtain ⟨rfl, rfl⟩ := e
      rw [Mu.put_same] at hm
      cases hm
      exact .inr ⟨rfl, rfl, rfl⟩
    · rw [Mu.put_other _ _ e] at hm
      exact .inl hm
  have hsz : w'.heap.size = w.heap.size + 1 := by rw [hw]; simp
  refine R.step h.next x hle (fun o' => Heap.get_push ..) (Nat.le_succ _) (Nat.lt_succ_self _) (by omega) (fun b hb => .inl (by rw [hw, Array.getElem?_push, if_neg (by omega)]))
    (fun o' g l' hm => ?_) (fun g l' _ hm => ?_) (fun g l' hm => ?_) hor (fun oi mo ins seen cur kd es ins' q1 q2 q3 => ?_) hos htape hout
  · rcases hno _ _ _ hm with h1 | ⟨rfl, _, rfl⟩
    · exact .inl h1
    · exact .inr ⟨rfl, by omega⟩
  · rcases hno _ _ _ hm with h1 | ⟨_, _, rfl⟩
    · rw [R.fresh] at h1; cases h1
    · exact R.mine_fresh _ (by omega)
  · rcases hno _ _ _ hm with h1 | ⟨_, rfl, rfl⟩
    · rw [R.fresh] at h1; cases h1
    · exact hg
  · rw [Heap.get_push] at q1 q2
    by_cases e : oi = h.next
    · subst e
      rw [if_pos rfl] at q1
      cases q1
      by_cases e2 : mo = h.next
      · rw [if_pos e2] at q2; cases q2
      · rw [if_neg e2] at q2
        exact hit _ _ _ _ _ _ _ rfl q2
    · rw [if_neg e] at q1
      have e2 : mo = h.next := q3.resolve_left e
      -- an iterator that was there over a map that was not
      obtain ⟨l1, hl1, lm, hlm, _⟩ := (R.obj oi _ q1).2
      subst e2
      rw [R.fresh] at hlm
      cases hlm

/-- New cells. -/
theorem Rel.pushCells (R : Rel P K w0 μ h w) (cs : List V) (esz kap : Nat) (spare : Bool) (arr : Array Value) (et : TypeId) (hw : w'.heap = w.heap.push (.cells arr et (0, 0))) (hos : w'.os = w.os) (htape : w'.tape = w.tape) (hout : w'.output = w.output)
    (hv : ∀ (i : Nat) v, cs[i]? = some v → ∃ x, arr[i]? = some x ∧ VR μ v x) (hs : spare = true → cs.length ≤ kap * esz ∧ kap * esz ≤ arr.size ∧ 0 < esz) :
    Rel P K w0 (μ.put h.next 0 ⟨w.heap.size, 0, kap, esz⟩) (newCells h cs esz spare) w' := by
  refine R.push _ _ rfl hw hos htape hout (Nat.le_refl 0) ?_ (fun _ _ _ _ _ _ _ q => by cases q)
  refine ⟨fun g L hL => ?_, by simp, fun g g' M M' l1 l2 hM hM' m1 m2 _ => ?_⟩
  rotate_left
  · obtain ⟨rfl, rfl⟩ := lenOf_only rfl hM
    obtain ⟨rfl, rfl⟩ := lenOf_only rfl hM'
    rw [m1] at m2
    cases m2
    rfl
  obtain ⟨rfl, rfl⟩ := lenOf_only rfl hL
  refine ⟨⟨w.heap.size, 0, kap, esz⟩, arr, et, (0, 0), Mu.put_same .., rfl, by rw [hw]; simp, fun _ => rfl, Nat.le_refl _, fun i v _ h => ?_, fun _ q => by simpa using hs q, fun _ => rfl⟩
  obtain ⟨x, h1, h2⟩ := hv i v h
  exact ⟨x, by simpa using h1, h2.mono (Mu.le_put _ (R.fresh 0))⟩
end
end Go.Xr
