/- X, an executor of the program's compiled code, with its proof: part 5. -/
import Derived.Test.YtmkbnbpblhoekaaW2
import Derived.Shelf.SlIterI.Sorted
import Derived.Shelf.SlIterI.Nil
import Derived.Test.YtmkbnbpblhoekaaW3
namespace Go.Xr
open Go.RowKit Go.Proofs Go.Shelf Go.Maps Go.Sort
section
variable [RoLim] {P : Program}
theorem Rel.pushBelow {K : Nat → Prop} {w0 w w' : World} {μ : Mu} {h : Heap} (R : Rel P K w0 μ h w) (hb : Below w.heap.size w w') {cs : List V} {kap esz g : Nat} {arr : Array Value} {et : TypeId} (hg : w.heap.size ≤ g) (hblk : w'.heap[g]? = some (.cells arr et (0, 0)))
    (hv : ∀ (i : Nat) v, cs[i]? = some v → ∃ x, arr[i]? = some x ∧ VR μ v x) (hs : cs.length ≤ kap * esz ∧ kap * esz ≤ arr.size ∧ 0 < esz) :
    Rel P K w0 (μ.put h.next 0 ⟨g, 0, kap, esz⟩) (newCells h cs esz true) w' := by
  have hlt : g < w'.heap.size := (Array.getElem?_eq_some_iff.1 hblk).1
  have hmine : Mine K μ h h.next g := R.mine_fresh h.next hg
  have hle : μ.le (μ.put h.next 0 ⟨g, 0, kap, esz⟩) := Mu.le_put _ (R.fresh 0)
  have hno : ∀ o' g' l', (μ.put h.next 0 ⟨g, 0, kap, esz⟩) o' g' = some l' → μ o' g' = some l' ∨ (o' = h.next ∧ g' = 0 ∧ l' = ⟨g, 0, kap, esz⟩) := by
    intro o' g' l' hm
    by_cases e : o' = h.next ∧ g' = 0
    · obtain ⟨rfl, rfl⟩ := e
      rw [Mu.put_same] at hm
      cases hm
      exact .inr ⟨rfl, rfl, rfl⟩
    · rw [Mu.put_other _ _ e] at hm
      exact .inl hm
  refine R.step h.next _ hle (fun o' => Heap.get_push ..) (Nat.le_succ _) (Nat.lt_succ_self _) hb.size (fun b hlt => .inl (hb.block b hlt)) (fun o' g' l' hm => ?_) (fun g' l' _ hm => ?_) (fun g' l' hm => ?_) ⟨fun g' L hL => ?_, by simp, fun g1 g2 M M' l1 l2 hM hM' m1 m2 _ => ?_⟩
    (fun oi mo ins seen cur kd es ins' q1 q2 q3 => ?_) hb.os hb.tape hb.output
  · rcases hno _ _ _ hm with h1 | ⟨rfl, _, rfl⟩
    · exact .inl h1
    · exact .inr ⟨rfl, hlt⟩
  · rcases hno _ _ _ hm with h1 | ⟨_, _, rfl⟩
    · rw [R.fresh] at h1; cases h1
    · exact hmine
  · rcases hno _ _ _ hm with h1 | ⟨_, rfl, rfl⟩
    · rw [R.fresh] at h1; cases h1
    · exact Nat.le_refl 0
  · obtain ⟨rfl, rfl⟩ := lenOf_only rfl hL
    refine ⟨⟨g, 0, kap, esz⟩, arr, et, (0, 0), Mu.put_same .., rfl, hblk, fun _ => rfl, Nat.le_refl _, fun i v _ hi => ?_, fun _ _ => by simpa using hs, fun q => by cases q⟩
    obtain ⟨x, h1, h2⟩ := hv i v hi
    exact ⟨x, by simpa using h1, h2.mono hle⟩
  · obtain ⟨rfl, rfl⟩ := lenOf_only rfl hM
    obtain ⟨rfl, rfl⟩ := lenOf_only rfl hM'
    rw [m1] at m2
    cases m2
    rfl
  · unfold newCells at q1 q2
    rw [Heap.get_push] at q1 q2
    rcases q3 with rfl | rfl
    · simp at q1
    · simp at q2
omit [RoLim] in
def keysWf : List (Int × V) → Bool
  | [] => true
  | (k, _) :: r => (Lit.int .i64 k).wf && keysWf r
omit [RoLim] in
theorem keysWf_mem : ∀ {es : List (Int × V)}, keysWf es = true → ∀ p ∈ es, (Lit.int .i64 p.1).wf = true
  | [], _, p, hp => by cases hp
  | (k, v) :: r, h, p, hp => by
    simp only [keysWf, Bool.and_eq_true] at h
    rcases List.mem_cons.1 hp with rfl | hp
    · exact h.1
    · exact keysWf_mem h.2 p hp
omit [RoLim] in
def anyElem (_ : Value) : Option (DataW Unit × List MemPlace) := some (.nil, [])
omit [RoLim] in
theorem rg_key {μ : Mu} {es : List (Int × V)} {es' : List MapEntry} {clock : Nat} (hr : MR μ .i64 es es' clock) (hw : keysWf es = true) {k : TypeId} (hk : P.underlying k = some (.int .i64)) {e : MapEntry} (he : e ∈ es') :
    ∃ n v, hasKey n es = some v ∧ e.key = .int .i64 n ∧ WideElems.rd P k anyElem e = some (.int .i64 n, .nil) := by
  obtain ⟨n, v, h1, h2, _⟩ := hr.there e he
  refine ⟨n, v, h2, h1, ?_⟩
  have hwf := keysWf_mem hw _ (hasKey_mem h2)
  simp only at hwf
  simp [WideElems.rd, keyOf, hk, mapKey, h1, hwf, anyElem]
omit [RoLim] in
theorem nums_perm {μ : Mu} {es : List (Int × V)} {es' : List MapEntry} {clock : Nat} (hr : MR μ .i64 es es' clock) (hw : keysWf es = true) {k : TypeId} (hk : P.underlying k = some (.int .i64)) :
    (intKeys (.map ((es'.map (WideElems.rg P k anyElem)).foldr DataW.insert [] : List (Lit × DataW Unit)))).Perm (es.map fun p => p.1) := by
  have hnum : ∀ e ∈ es', ∃ n v, hasKey n es = some v ∧ e.key = .int .i64 n ∧ intOf (WideElems.rg P k anyElem e).1 = n := by
    intro e he
    obtain ⟨n, v, h1, h2, h3⟩ := rg_key hr hw hk he
    exact ⟨n, v, h1, h2, by rw [WideElems.rg_of h3]; rfl⟩
  have hp1 : (intKeys (.map ((es'.map (WideElems.rg P k anyElem)).foldr DataW.insert [] : List (Lit × DataW Unit)))).Perm (es'.map fun e => intOf (WideElems.rg P k anyElem e).1) := by
    show (List.map _ _).Perm _
    have := (WideShapes.sorted_perm (es'.map (WideElems.rg P k anyElem))).map (fun p : Lit × DataW Unit => intOf p.1)
    simpa [List.map_map, Function.comp_def] using this
  refine hp1.trans ((List.perm_ext_iff_of_nodup ?_ ?_).2 fun n => ?_)
  · refine List.pairwise_map.2 (hr.keys.imp_of_mem fun {a b} ha hb hne e => hne ?_)
    obtain ⟨n, _, _, a1, a2⟩ := hnum a ha
    obtain ⟨m, _, _, b1, b2⟩ := hnum b hb
    rw [a2, b2] at e
    rw [a1, b1, e]
  · exact List.pairwise_map.2 (hr.sorted.imp fun {a b} h e => by omega)
  · rw [List.mem_map, List.mem_map]
    constructor
    · rintro ⟨e, he, rfl⟩
      obtain ⟨n, v, a1, _, a3⟩ := hnum e he
      exact ⟨(n, v), hasKey_mem a1, a3.symm⟩
    · rintro ⟨⟨n, v⟩, hp, rfl⟩
      obtain ⟨e, he, hk'⟩ := hr.back n v (hasKey_of_mem hr.sorted hp)
      obtain ⟨m, _, _, b1, b2⟩ := hnum e he
      rw [hk'] at b1
      cases b1
      exact ⟨e, he, b2⟩
omit [RoLim] in
theorem sorted_nums {μ : Mu} {es : List (Int × V)} {es' : List MapEntry} {clock : Nat} (hr : MR μ .i64 es es' clock) (hw : keysWf es = true) {k : TypeId} (hk : P.underlying k = some (.int .i64)) {ss : List Int}
    (hp : ss.Perm (intKeys (.map ((es'.map (WideElems.rg P k anyElem)).foldr DataW.insert [] : List (Lit × DataW Unit))))) : ss.mergeSort (fun x y => decide (x ≤ y)) = es.map fun p => p.1 := by
  have := mergeSort_of_perm_i (hp.trans (nums_perm hr hw hk))
  refine this.trans (List.mergeSort_of_pairwise ?_)
  refine List.pairwise_map.2 (hr.sorted.imp fun {a b} h => ?_)
  simp only [leI, decide_eq_true_eq]
  omega
theorem owns_of {K : Nat → Prop} {w0 w : World} {μ : Mu} {h : Heap} (R : Rel P K w0 μ h w) {mo ins : Nat} {es : List (Int × V)} (hgm : h.get mo = some (.map .i64 es ins)) (hw : keysWf es = true) {k : TypeId} (hk : P.underlying k = some (.int .i64)) (hlen : es.length ≤ maxLen) :
    ∃ lm es' clock, μ mo 0 = some lm ∧ w.ownsMap P k anyElem lm.blk es.length (.map ((es'.map (WideElems.rg P k anyElem)).foldr DataW.insert []) : DataW Unit) ∧ MR μ .i64 es es' clock := by
  obtain ⟨lm, es', clock, h1, h2, h3⟩ := (R.obj mo _ hgm).2
  refine ⟨lm, es'.toList, clock, h1, ⟨es', clock, h2, ⟨?_, ⟨h3.young, ?_, ?_⟩, fun x hx => ?_⟩, ?_, rfl⟩, h3⟩
  · have := h3.size; simp at this; omega
  · exact List.pairwise_map.2 h3.stamps
  · exact List.pairwise_map.2 h3.keys
  · obtain ⟨n, v, _, _, q⟩ := rg_key h3 hw hk hx
    exact ⟨_, q⟩
  · have := h3.size; simp at this; omega
omit [RoLim] in
def keysOut (es : List (Int × V)) (h : Heap) : V × Heap :=
  match es with
  | [] => (.nils, h)
  | _ :: _ => (.slice h.next 0 0 es.length (.rest 0 1), newCells h (es.map fun p => .int .i64 p.1) 1 true)
theorem keysOut_after {K : Nat → Prop} {w0 w w' : World} {μ : Mu} {h : Heap} (R : Rel P K w0 μ h w) (hb : Below w.heap.size w w') {es : List (Int × V)} {et : TypeId} {v : Value} {n : Nat} (hn : n = es.length) (hrow : w'.ownsRow w.heap.size et 1 v n ((es.map fun p => p.1).map encZ)) (hnil : v = .slice none 0 0 ↔ es = []) :
    ∃ μ', Aft P K w0 μ μ' (keysOut es h).1 (keysOut es h).2 v w' := by
  subst hn
  cases es with
  | nil =>
    have := hnil.2 rfl
    subst this
    exact ⟨μ, Mu.le_refl μ, R.below hb, .nils⟩
  | cons p r =>
    rcases hrow.2 with ⟨e, _⟩ | ⟨g, cap, cur, rfl, hg, hblk, h1, h2, h3, h4⟩
    · have := hnil.1 e; cases this
    · have hlen : (p :: r).length = r.length + 1 := rfl
      have R' := R.pushBelow hb (cs := (p :: r).map fun p => .int .i64 p.1) (kap := cap) (esz := 1) hg hblk (fun i v hi => ?_) ⟨by simpa using h1, by omega, Nat.one_pos⟩
      · exact ⟨_, Mu.le_put _ (R.fresh 0), R', .rest (Mu.put_same ..) _ (.inl rfl) (by simpa using h1) (by simp) rfl⟩
      · have hi2 : i < (p :: r).length := by
          have := (List.getElem?_eq_some_iff.1 hi).1
          simpa using this
        have : (cur.toList.take ((p :: r).length * 1))[i]? = some (encZ ((p :: r)[i]).1) := by rw [h4, List.map_map, List.getElem?_map, List.getElem?_eq_getElem hi2]; rfl
        rw [List.getElem?_take_of_lt (by omega), Array.getElem?_toList] at this
        refine ⟨_, this, ?_⟩
        rw [List.getElem?_map, List.getElem?_eq_getElem hi2] at hi
        simp only [Option.map_some, Option.some.injEq] at hi
        subst hi
        exact .int ..
variable {ρK ρS : Ren}
theorem sortedKeys_wp (LK : SlLaysZI.n10 P ρK) (LS : SlLaysZI.n6 P ρS) (hsort : ∀ m, AnyZI.SortsIn P ρS Fence.wide m) (e9 : ∀ args w, (callFunc (ρS.f 9) args).run P w = .ok (.enter (ρS.f 9) args) w) (eg : ∀ args w, (callFunc (ρK.f 10) args).run P w = .ok (.enter (ρK.f 10) args) w)
    {fn : Func} (hf : P.funcs[ρS.f 6]? = some fn) (hreal : Func.real fn) {h : Heap} {o mo ins : Nat} {c : Cells} {es : List (Int × V)} (hg : h.get o = some (.cells c)) (hsp : c.spare = false) (hc0 : readCells h o 0 0 1 = some [.map mo]) (hgm : h.get mo = some (.map .i64 es ins))
    (hwf : keysWf es = true) (hlen : es.length * 8 ≤ 140737488355328) : CallWP P false (ρS.f 6) [.func (ρK.f 10) [] [.ptr o 0 0]] h fun v h' => v = (keysOut es h).1 ∧ h' = (keysOut es h).2 := by
  refine callWP_of_calls hf hreal fun K w0 μ w args' R hv => ?_
  cases hv with
  | cons hv hnil0 =>
    cases hnil0
    cases hv with
    | @func _ _ _ a' b' ha hb =>
      cases ha
      cases hb with
      | cons hp hnil1 =>
        cases hnil1
        cases hp with
        | @ptr _ _ _ l hl =>
          have hmax : es.length ≤ maxLen := by
            have : (140737488355328 : Nat) ≤ maxLen := by decide
            omega
          obtain ⟨lm, es', clock, m1, hown, hmr⟩ := owns_of R hgm hwf LK.t26 hmax
          -- the box
          have hL : ∃ L, c.lenOf 0 = some L ∧ 0 < L ∧ c.cs[0]? = some (.map mo) := by
            unfold readCells Heap.cells? at hc0
            rw [hg] at hc0
            simp only at hc0
            split at hc0
            · rename_i L hL
              split at hc0 <;> simp at hc0
              rename_i hle
              refine ⟨L, hL, by simp at hle; omega, ?_⟩
              cases hcs : c.cs with
              | nil => rw [hcs] at hc0; simp at hc0
              | cons a r => rw [hcs] at hc0; simp at hc0; simp [hc0]
            · cases hc0
          obtain ⟨L, hL, hpos, hcs⟩ := hL
          obtain ⟨l', arr, et, fz, q1, q2, q3, q4, q5, q6, q7⟩ := R.cellsAt hg hL
          rw [hl] at q1
          cases q1
          have hbase := q7.2 hsp
          obtain ⟨x, x1, x2⟩ := q6 0 _ hpos hcs
          have hcell : w.cell? ⟨l.blk, 0, none⟩ = some (.map (some lm.blk)) := by
            cases x2 with
            | @map _ lm' hm' =>
              rw [m1] at hm'
              cases hm'
              rw [hbase] at x1
              simp [World.cell?, q3]
              simpa using x1
          have hD : (Maps.size (.map ((es'.map (WideElems.rg P (ρK.t 26) anyElem)).foldr DataW.insert []) : DataW Unit)) = es.length := by
            rw [Maps.size_eq, (WideShapes.sorted_perm _).length_eq]
            simp [hmr.size]
          have hseq : SeqGives Fence.wide 1 P (ρK.f 10) #[.pointer (some ⟨l.blk, 0, none⟩)] encZ _ _ w := AnyZI.keys_gives LK Fence.wide 1 trivial rfl (Nat.le_refl _) l.blk lm.blk es.length _ w (R.dom _ _ _ hl).2 hcell hown
          have cS := AnyZI.sorted_in LS Fence.wide 4 trivial trivial trivial trivial rfl (Nat.le_refl _) (hsort _) e9 (ρK.f 10) #[.pointer (some ⟨l.blk, 0, none⟩)] trivial eg _ _ (by rw [hD]; exact hmax) (by rw [hD]; exact hlen) w hseq
          have cS := (callsIn_wide (n := 4)).1 cS
          rw [hbase]
          refine Calls.mono cS fun e w' ⟨v, ss, e1, hS, hrow, hnil, hbel⟩ => ?_
          have hsn := sorted_nums hmr hwf LK.t26 hS
          rw [hsn] at hrow
          have hlen' : ss.length = es.length := by
            have := congrArg List.length hsn
            simpa using this
          obtain ⟨μ', hA⟩ := keysOut_after R hbel hlen' hrow (hnil.trans ⟨fun q => by subst q; simp at hlen'; exact List.eq_nil_of_length_eq_zero hlen'.symm, fun q => by subst q; simp at hlen'; exact hlen'⟩)
          exact ⟨_, _, μ', v, ⟨rfl, rfl⟩, hA, e1⟩
theorem sortedKeys_nil_wp (LK : SlLaysZI.n10 P ρK) (LS : SlLaysZI.n6 P ρS) (hsort : ∀ m, AnyZI.SortsIn P ρS Fence.wide m) (e9 : ∀ args w, (callFunc (ρS.f 9) args).run P w = .ok (.enter (ρS.f 9) args) w) (eg : ∀ args w, (callFunc (ρK.f 10) args).run P w = .ok (.enter (ρK.f 10) args) w)
    {fn : Func} (hf : P.funcs[ρS.f 6]? = some fn) (hreal : Func.real fn) {h : Heap} {o : Nat} {c : Cells} (hg : h.get o = some (.cells c)) (hsp : c.spare = false) (hc0 : readCells h o 0 0 1 = some [.nilm]) :
    CallWP P false (ρS.f 6) [.func (ρK.f 10) [] [.ptr o 0 0]] h fun v h' => v = .nils ∧ h' = h := by
  refine callWP_of_calls hf hreal fun K w0 μ w args' R hv => ?_
  cases hv with
  | cons hv hnil0 =>
    cases hnil0
    cases hv with
    | @func _ _ _ a' b' ha hb =>
      cases ha
      cases hb with
      | cons hp hnil1 =>
        cases hnil1
        cases hp with
        | @ptr _ _ _ l hl =>
          have hL : ∃ L, c.lenOf 0 = some L ∧ 0 < L ∧ c.cs[0]? = some .nilm := by
            unfold readCells Heap.cells? at hc0
            rw [hg] at hc0
            simp only at hc0
            split at hc0
            · rename_i L hL
              split at hc0 <;> simp at hc0
              rename_i hle
              refine ⟨L, hL, by simp at hle; omega, ?_⟩
              cases hcs : c.cs with
              | nil => rw [hcs] at hc0; simp at hc0
              | cons a r => rw [hcs] at hc0; simp at hc0; simp [hc0]
            · cases hc0
          obtain ⟨L, hL, hpos, hcs⟩ := hL
          obtain ⟨l', arr, et, fz, q1, q2, q3, q4, q5, q6, q7⟩ := R.cellsAt hg hL
          rw [hl] at q1
          cases q1
          have hbase := q7.2 hsp
          obtain ⟨x, x1, x2⟩ := q6 0 _ hpos hcs
          have hcell : w.cell? ⟨l.blk, 0, none⟩ = some (.map none) := by
            cases x2
            rw [hbase] at x1
            simp [World.cell?, q3]
            simpa using x1
          have hseq : SeqGives Fence.wide 1 P (ρK.f 10) #[.pointer (some ⟨l.blk, 0, none⟩)] encZ _ _ w := AnyZI.keys_gives_nil LK Fence.wide 1 trivial rfl l.blk w (R.dom _ _ _ hl).2 hcell
          have cS := AnyZI.sorted_in LS Fence.wide 4 trivial trivial trivial trivial rfl (Nat.le_refl _) (hsort _) e9 (ρK.f 10) #[.pointer (some ⟨l.blk, 0, none⟩)] trivial eg _ _ (Nat.zero_le _) (by omega) w hseq
          have cS := (callsIn_wide (n := 4)).1 cS
          rw [hbase]
          refine Calls.mono cS fun e w' ⟨v, ss, e1, hS, hrow, hnil, hbel⟩ => ?_
          have := hnil.2 hS
          subst this
          exact ⟨_, _, μ, _, ⟨rfl, rfl⟩, ⟨Mu.le_refl μ, R.below hbel, .nils⟩, e1⟩
omit [RoLim] in
def sortedHook (fS fK : Nat) : Task → Option Out
  | .call false f [.func g [] [.ptr o 0 0]] h => match Nat.beq f fS && Nat.beq g fK with
    | false => none
    | true => match h.get o with
      | some (.cells c) => match c.spare, readCells h o 0 0 1 with
        | false, some [.map mo] => match h.get mo with
          | some (.map .i64 es _) => match keysWf es && Nat.ble (es.length * 8) 140737488355328 with
            | true => match keysOut es h with
              | (v, h') => some (.call v h')
            | false => none
          | _ => none
        | false, some [.nilm] => some (.call .nils h)
        | _, _ => none
      | _ => none
  | _ => none
theorem sortedHook_sound (LK : SlLaysZI.n10 P ρK) (LS : SlLaysZI.n6 P ρS) (hsort : ∀ m, AnyZI.SortsIn P ρS Fence.wide m) (e9 : ∀ args w, (callFunc (ρS.f 9) args).run P w = .ok (.enter (ρS.f 9) args) w) (eg : ∀ args w, (callFunc (ρK.f 10) args).run P w = .ok (.enter (ρK.f 10) args) w)
    {fn : Func} (hf : P.funcs[ρS.f 6]? = some fn) (hreal : Func.real fn) : HookOk P (sortedHook (ρS.f 6) (ρK.f 10)) := by
  intro k r hk
  unfold sortedHook at hk
  split at hk
  · split at hk
    · cases hk
    · rename_i hfg
      simp only [Bool.and_eq_true] at hfg
      have e1 := Nat.eq_of_beq_eq_true hfg.1
      have e2 := Nat.eq_of_beq_eq_true hfg.2
      subst e1; subst e2
      split at hk <;> try (cases hk; done)
      rename_i c hg
      split at hk
      · rename_i mo hsp hc0
        split at hk <;> try (cases hk; done)
        rename_i es ins hgm
        split at hk <;> try (cases hk; done)
        rename_i hcond
        simp only [Bool.and_eq_true] at hcond
        simp only [Option.some.injEq] at hk
        subst hk
        exact sortedKeys_wp LK LS hsort e9 eg hf hreal hg hsp hc0 hgm hcond.1 (Nat.le_of_ble_eq_true hcond.2)
      · rename_i hsp hc0
        simp only [Option.some.injEq] at hk
        subst hk
        exact sortedKeys_nil_wp LK LS hsort e9 eg hf hreal hg hsp hc0
      · cases hk
  · cases hk
end
end Go.Xr
namespace Go.Chk
structure Asg where
  v : Int → Bool
  opp : ∀ x, x ≠ 0 → v (-x) = !v x
def Asg.Sat (m : Asg) (l : List Int) : Prop := ∃ x ∈ l, m.v x = true
def Asg.All (m : Asg) (es : List (Int × List Int)) : Prop := ∀ e ∈ es, m.Sat e.2
def NoZ (l : List Int) : Prop := ∀ x ∈ l, x ≠ 0
def NoZs (es : List (Int × List Int)) : Prop := ∀ e ∈ es, NoZ e.2
theorem Asg.neg_true {m : Asg} {x : Int} (hx : x ≠ 0) (h : m.v (-x) = true) : m.v x = false := by
  rw [m.opp x hx] at h
  simpa using h
theorem stepOf_sound {m : Asg} {yes l : List Int} (hy : ∀ x ∈ yes, m.v x = true) (hl : NoZ l) (hs : m.Sat l) :
    stepOf yes l = .wrong ∨ ∃ x, stepOf yes l = .unit x ∧ m.v x = true ∧ x ∈ l := by
  obtain ⟨a, ha, hv⟩ := hs
  rcases stepOf_cases yes l with ⟨_, e⟩ | ⟨_, e⟩ | ⟨h, e⟩ | ⟨x, ⟨h1, h2, h3, h4⟩, e⟩
  · exact .inl e
  · exact .inl e
  · have := m.neg_true (hl a ha) (hy _ (h a ha).2)
    rw [hv] at this
    cases this
  · refine .inr ⟨x, e, ?_, h2⟩
    by_cases hay : -a ∈ yes
    · have := m.neg_true (hl a ha) (hy _ hay)
      rw [hv] at this
      cases this
    · rw [← h4 a ha hay]
      exact hv
theorem thr_sound {m : Asg} {es : List (Int × List Int)} (he : m.All es) (hz : NoZs es) : ∀ (hints : List Int) {yes : List Int}, (∀ x ∈ yes, m.v x = true) →
    (thr es yes hints).2 ≠ 1 ∧ ∀ x ∈ (thr es yes hints).1, m.v x = true
  | [], yes, hy => ⟨by simp [thr], hy⟩
  | id :: r, yes, hy => by
    unfold thr
    cases hf : find es id with
    | none => exact ⟨by simp, hy⟩
    | some l =>
      have hm := find_some hf
      rcases stepOf_sound hy (hz _ hm) (he _ hm) with e | ⟨x, e, hx, _⟩
      · simp only [e]
        exact ⟨by simp, hy⟩
      · simp only [e]
        refine thr_sound he hz r fun y hm => ?_
        rcases List.mem_append.1 hm with hm | hm
        · exact hy y hm
        · rw [List.mem_singleton] at hm
          subst hm
          exact hx
theorem both_sat {m : Asg} {l : List Int} (hz : NoZ l) (h : both l = true) : m.Sat l := by
  unfold both at h
  rw [List.any_eq_true] at h
  obtain ⟨x, hx, h2⟩ := h
  have h2 := of_decide_eq_true h2
  cases hv : m.v x with
  | true => exact ⟨x, hx, hv⟩
  | false => exact ⟨-x, h2, by rw [m.opp x (hz x hx), hv]; rfl⟩
theorem negs_true {m : Asg} {l : List Int} (hz : NoZ l) (h : ¬ m.Sat l) : ∀ x ∈ l.map (fun x => -x), m.v x = true := fun x hx => by
  obtain ⟨y, hy, rfl⟩ := List.mem_map.1 hx
  rw [m.opp y (hz y hy)]
  cases hv : m.v y with
  | true => exact absurd ⟨y, hy, hv⟩ h
  | false => rfl
def Asg.put (m : Asg) (p : Int) (hp : p ≠ 0) : Asg := ⟨fun x => if x = p then true else if x = -p then false else m.v x, fun x hx => by
  have e : (-x = p) ↔ (x = -p) := by omega
  have e' : (-x = -p) ↔ (x = p) := by omega
  simp only [e, e']
  by_cases h1 : x = p
  · subst h1
    rw [if_neg (by omega), if_pos rfl, if_pos rfl]
    rfl
  · by_cases h2 : x = -p
    · rw [if_pos h2, if_neg h1, if_pos h2]
      rfl
    · rw [if_neg h2, if_neg h1, if_neg h1, if_neg h2, m.opp x hx]⟩
theorem Asg.put_self {m : Asg} {p : Int} (hp : p ≠ 0) : (m.put p hp).v p = true := if_pos rfl
theorem Asg.put_of {m : Asg} {p x : Int} (hp : p ≠ 0) (hx : m.v x = true) (h : x ≠ -p) : (m.put p hp).v x = true := by
  show (if x = p then true else if x = -p then false else m.v x) = true
  by_cases h1 : x = p
  · rw [if_pos h1]
  · rw [if_neg h1, if_neg h]
    exact hx
theorem groupOf_sound {m : Asg} {es : List (Int × List Int)} (he : m.All es) (hz : NoZs es) {l yes hints : List Int} {p : Int} (hp : p ≠ 0) (hy : ∀ x ∈ yes, m.v x = true) (hl : NoZ l) (h : groupOf es l p yes hints = 0) : (m.put p hp).Sat l := by
  by_cases hany : l.any (fun x => decide (x ≠ -p ∧ (x ∈ yes ∨ -x ∈ l))) = true
  · rw [List.any_eq_true] at hany
    obtain ⟨x, hx, h2⟩ := hany
    obtain ⟨h2, h3⟩ := of_decide_eq_true h2
    by_cases hxp : x = p
    · subst hxp
      exact ⟨x, hx, Asg.put_self hp⟩
    rcases h3 with h3 | h3
    · exact ⟨x, hx, Asg.put_of hp (hy x h3) h2⟩
    · cases hv : m.v x with
      | true => exact ⟨x, hx, Asg.put_of hp hv h2⟩
      | false => exact ⟨-x, h3, Asg.put_of hp (by rw [m.opp x (hl x hx), hv]; rfl) (by omega)⟩
  · unfold groupOf at h
    rw [if_neg hany] at h
    by_cases hc : ∃ x ∈ l, x ≠ -p ∧ m.v x = true
    · obtain ⟨x, hx, h2, h3⟩ := hc
      exact ⟨x, hx, Asg.put_of hp h3 h2⟩
    · have hh : ∀ x ∈ yes ++ (l.filter fun x => decide (x ≠ -p)).map (fun x => -x), m.v x = true := fun x hx => by
        rcases List.mem_append.1 hx with hx | hx
        · exact hy x hx
        · obtain ⟨y, hy', rfl⟩ := List.mem_map.1 hx
          obtain ⟨q1, q2⟩ := List.mem_filter.1 hy'
          have q2 := of_decide_eq_true q2
          rw [m.opp y (hl y q1)]
          cases hv : m.v y with
          | true => exact absurd ⟨y, q1, q2, hv⟩ hc
          | false => rfl
      have := (thr_sound he hz hints hh).1
      split at h
      · cases h
      · rename_i e
        exact absurd e this
      · cases h
theorem groups_sound {m : Asg} {es : List (Int × List Int)} (he : m.All es) (hz : NoZs es) {yes : List Int} {p : Int} (hp : p ≠ 0) (hy : ∀ x ∈ yes, m.v x = true) : ∀ (n : Nat) (hints : List Int) (last : Int) (met : List Int), hints.length ≤ n → (∀ e ∈ es, e.1 ∈ met → (m.put p hp).Sat e.2) → (es.map Prod.fst).Pairwise (· < ·) → groups es p yes hints last met = 0 → (m.put p hp).All es
  | n, [], last, met, _, hm, _, h => by
    rw [groups] at h
    split at h
    · cases h
    · rename_i hn
      intro e hm'
      by_cases hin : -p ∈ e.2
      · refine hm e hm' (Classical.byContradiction fun q => hn ?_)
        rw [List.any_eq_true]
        exact ⟨e, hm', decide_eq_true ⟨hin, q⟩⟩
      · obtain ⟨x, hx, hv⟩ := he e hm'
        exact ⟨x, hx, Asg.put_of hp hv fun q => hin (q ▸ hx)⟩
  | 0, h :: r, _, _, hn, _, _, _ => by simp at hn
  | n + 1, hd :: r, last, met, hn, hm, hpw, h => by
    rw [groups] at h
    cases hf : find es (-hd) with
    | none => rw [hf] at h; cases h
    | some l =>
      rw [hf] at h
      simp only at h
      split at h
      · cases h
      · split at h
        · rename_i hg
          have hmem := find_some hf
          refine groups_sound he hz hp hy n _ _ _ (by simp at hn ⊢; omega) (fun e hme hin => ?_) hpw h
          rcases List.mem_cons.1 hin with q | q
          · have : e = (-hd, l) := by
              have hnd : (es.map Prod.fst).Nodup := hpw.imp fun q => by omega
              obtain ⟨i, hi, rfl⟩ := List.getElem_of_mem hme
              obtain ⟨j, hj, ej⟩ := List.getElem_of_mem hmem
              have e1 : (es.map Prod.fst)[i]'(by simpa using hi) = (es.map Prod.fst)[j]'(by simpa using hj) := by
                rw [List.getElem_map, List.getElem_map, ej, q]
              have := (List.getElem_inj hnd).1 e1
              subst this
              exact ej
            subst this
            exact groupOf_sound he hz hp hy (hz _ hmem) hg
          · exact hm e hme q
        · rename_i hg
          exact absurd h hg
theorem follows_sound {m : Asg} {es : List (Int × List Int)} (he : m.All es) (hz : NoZs es) (hpw : (es.map Prod.fst).Pairwise (· < ·)) {l hints : List Int} (hl : NoZ l) (h : follows es l hints = 0) : m.Sat l ∨ ∃ p r, l = p :: r ∧ ∃ hp : p ≠ 0, (m.put p hp).All es ∧ groups es p (thr es (l.map fun x => -x) (hints.take (headN hints))).1 (hints.drop (headN hints)) 0 [] = 0 := by
  refine Classical.byContradiction fun hc => ?_
  have hs : ¬ m.Sat l := fun q => hc (.inl q)
  have ht := thr_sound he hz (hints.take (headN hints)) (negs_true hl hs)
  unfold follows at h
  rw [if_neg fun q => hs (both_sat hl q)] at h
  split at h
  · split at h
    · cases h
    · rename_i p r _
      have hp : p ≠ 0 := hl p List.mem_cons_self
      exact hc (.inr ⟨p, r, rfl, hp, groups_sound he hz hp ht.2 _ _ _ _ (Nat.le_refl _) (fun e _ q => by cases q) hpw h, h⟩)
  · rename_i e
    exact ht.1 e
  · cases h
theorem groups_none {es : List (Int × List Int)} {p : Int} {yes hints : List Int} {last : Int} (hr : ∀ e ∈ es, 0 < e.1) (hh : ∀ x ∈ hints, 0 ≤ x) (h : groups es p yes hints last [] = 0) : ∀ e ∈ es, -p ∉ e.2 := by
  cases hints with
  | nil =>
    rw [groups] at h
    split at h
    · cases h
    · rename_i hn
      intro e he hin
      refine hn ?_
      rw [List.any_eq_true]
      exact ⟨e, he, decide_eq_true ⟨hin, by simp⟩⟩
  | cons a r =>
    rw [groups] at h
    have : find es (-a) = none := find_none.2 fun e he q => by
      have := hr e he
      have := hh a List.mem_cons_self
      omega
    rw [this] at h
    cases h
theorem follows_plain {m : Asg} {es : List (Int × List Int)} (he : m.All es) (hz : NoZs es) {last : Int} (hr : Rise es last) {l hints : List Int} (hl : NoZ l) (hh : ∀ x ∈ hints, 0 ≤ x) (h : follows es l hints = 0) : m.Sat l ∨ ∃ p r, l = p :: r ∧ ∀ e ∈ es, -p ∉ e.2 := by
  rcases follows_sound he hz hr.1 hl h with q | ⟨p, r, e, _, _, hg⟩
  · exact .inl q
  · exact .inr ⟨p, r, e, groups_none (fun e he => (hr.2 e he).2) (fun x hx => hh x (List.mem_of_mem_drop hx)) hg⟩
theorem follows_nil {m : Asg} {es : List (Int × List Int)} (hz : NoZs es) {hints : List Int} (h : follows es [] hints = 0) : ¬ m.All es := fun he => by
  unfold follows at h
  rw [if_neg (by decide)] at h
  have := (thr_sound he hz (hints.take (headN hints)) (yes := ([] : List Int).map fun x => -x) (by simp)).1
  split at h
  · cases h
  · rename_i e
    exact this e
  · cases h
end Go.Chk
namespace Go.Chk
theorem step_add {s : Chs} {id : Int} {l hints : List Int} {may : Bool} (h : (s.step may 1 id l hints).1 = 0) : may = true ∧ s.last < id ∧ follows s.es l hints = 0 ∧ (s.step may 1 id l hints).2 = s.put id l := by
  unfold Chs.step at h ⊢
  cases may with
  | false => simp at h
  | true =>
    rw [if_neg (by simp), if_neg (by decide)] at h ⊢
    split at h
    · cases h
    · rename_i h1
      split at h
      · rename_i h2
        exact absurd h h2
      · rename_i h2
        split at h
        · cases h
        · rename_i h3
          have h2 := Classical.byContradiction h2
          rw [if_neg h1, if_neg (fun q => q h2), if_neg h3]
          exact ⟨rfl, by omega, h2, rfl⟩
theorem step_del {s : Chs} {id : Int} {l hints : List Int} {may : Bool} (h : (s.step may 2 id l hints).1 = 0) : (s.step may 2 id l hints).2 = { s with es := s.es.filter fun e => decide (e.1 ∉ hints) } := by
  unfold Chs.step at h ⊢
  cases may with
  | false => simp at h
  | true =>
    rw [if_neg (by simp), if_pos rfl] at h ⊢
    split at h
    · cases h
    · rename_i h1
      rw [if_neg h1]
theorem step_not {s : Chs} {kind id : Int} {l hints : List Int} {may : Bool} (h : (s.step may kind id l hints).1 ≠ 0) : (s.step may kind id l hints).2 = s := by
  unfold Chs.step at h ⊢
  repeat' split
  all_goals first
    | rfl
    | (exfalso; exact h rfl)
    | (exfalso; simp_all)
def Mod (es : List (Int × List Int)) : Prop := ∃ m : Asg, m.All es
theorem step_keeps {s : Chs} {kind id : Int} {l hints : List Int} {may : Bool} (hk : may = true → kind = 1 ∨ kind = 2) (hz : NoZs s.es) (hr : Rise s.es s.last) (hl : may = true → NoZ l) (h : (s.step may kind id l hints).1 = 0) (hm : Mod s.es) : Mod (s.step may kind id l hints).2.es := by
  have hmay : may = true := by
    cases may with
    | true => rfl
    | false => simp [Chs.step] at h
  obtain ⟨m, hm⟩ := hm
  rcases hk hmay with rfl | rfl
  · obtain ⟨_, _, h2, h3⟩ := step_add h
    rw [h3]
    rcases follows_sound hm hz hr.1 (hl hmay) h2 with q | ⟨p, r, rfl, hp, ha, _⟩
    · refine ⟨m, fun e he => ?_⟩
      rcases List.mem_append.1 he with he | he
      · exact hm e he
      · rw [List.mem_singleton] at he
        subst he
        exact q
    · refine ⟨m.put p hp, fun e he => ?_⟩
      rcases List.mem_append.1 he with he | he
      · exact ha e he
      · rw [List.mem_singleton] at he
        subst he
        exact ⟨p, List.mem_cons_self, Asg.put_self hp⟩
  · rw [step_del h]
    exact ⟨m, fun e he => hm e (List.mem_filter.1 he).1⟩
theorem step_ends {s : Chs} {kind id : Int} {l hints : List Int} {may : Bool} (hk : may = true → kind = 1 ∨ kind = 2) (hz : NoZs s.es) (ho : s.over = true → ¬ Mod s.es) (h : (s.step may kind id l hints).1 = 0) (hd : (s.step may kind id l hints).2.over = true) : ¬ Mod s.es := by
  have hmay : may = true := by
    cases may with
    | true => rfl
    | false => simp [Chs.step] at h
  rcases hk hmay with rfl | rfl
  · obtain ⟨_, _, h2, h3⟩ := step_add h
    rw [h3] at hd
    rcases Bool.or_eq_true_iff.1 hd with q | q
    · exact ho q
    · have : l = [] := List.isEmpty_iff.1 q
      subst this
      rintro ⟨m, hm⟩
      exact follows_nil hz h2 hm
  · rw [step_del h] at hd
    exact ho hd
theorem start_es : ∀ (cs : List (List Int)) (s : Chs) (n : Int), (∀ e ∈ (start cs s n).es, e ∈ s.es ∨ e.2 ∈ cs) ∧ (∀ e ∈ s.es, e ∈ (start cs s n).es) ∧ ∀ c ∈ cs, ∃ e ∈ (start cs s n).es, e.2 = c
  | [], s, n => ⟨fun e he => .inl he, fun e he => he, fun c hc => by cases hc⟩
  | c :: r, s, n => by
    obtain ⟨h1, h2, h3⟩ := start_es r (s.put n c) (n + 1)
    refine ⟨fun e he => ?_, fun e he => h2 e (List.mem_append_left _ he), fun x hx => ?_⟩
    · rcases h1 e he with q | q
      · rcases List.mem_append.1 q with q | q
        · exact .inl q
        · rw [List.mem_singleton] at q
          subst q
          exact .inr List.mem_cons_self
      · exact .inr (List.mem_cons_of_mem _ q)
    · rcases List.mem_cons.1 hx with rfl | hx
      · exact ⟨(n, x), h2 _ (List.mem_append_right _ (List.mem_singleton.2 rfl)), rfl⟩
      · exact h3 x hx
theorem start_all {m : Asg} {cs : List (List Int)} {n : Int} : m.All (start cs ⟨[], 0, false⟩ n).es ↔ ∀ c ∈ cs, m.Sat c := by
  obtain ⟨h1, _, h3⟩ := start_es cs ⟨[], 0, false⟩ n
  constructor
  · intro h c hc
    obtain ⟨e, he, rfl⟩ := h3 c hc
    exact h e he
  · intro h e he
    rcases h1 e he with q | q
    · cases q
    · exact h _ q
theorem start_over : ∀ (cs : List (List Int)) (s : Chs) (n : Int), (start cs s n).over = true → s.over = true ∨ [] ∈ cs
  | [], s, n, h => .inl h
  | c :: r, s, n, h => by
    rcases start_over r _ _ h with q | q
    · rcases Bool.or_eq_true_iff.1 q with q | q
      · exact .inl q
      · have : c = [] := List.isEmpty_iff.1 q
        subst this
        exact .inr List.mem_cons_self
    · exact .inr (List.mem_cons_of_mem _ q)
theorem start_ends {cs : List (List Int)} {n : Int} (h : (start cs ⟨[], 0, false⟩ n).over = true) : ¬ Mod (start cs ⟨[], 0, false⟩ n).es := by
  rintro ⟨m, hm⟩
  rcases start_over _ _ _ h with q | q
  · cases q
  · obtain ⟨x, hx, _⟩ := start_all.1 hm [] q
    cases hx
def bitV (k : Nat) (x : Int) : Bool := if 0 < x then k.testBit (x.toNat - 1) else !k.testBit ((-x).toNat - 1)
def asgOf (k : Nat) : Asg := ⟨bitV k, fun x hx => by
  unfold bitV
  by_cases h : 0 < x
  · rw [if_neg (by omega), if_pos h, show - -x = x by omega]
  · rw [if_pos (by omega), if_neg h, Bool.not_not]⟩
theorem bits_of (f : Nat → Bool) : ∀ n, ∃ k, k < 2 ^ n ∧ ∀ i, i < n → k.testBit i = f i
  | 0 => ⟨0, by decide, fun i hi => by omega⟩
  | n + 1 => by
    obtain ⟨k, h1, h2⟩ := bits_of f n
    cases hf : f n with
    | false =>
      refine ⟨k, by rw [Nat.pow_succ]; omega, fun i hi => ?_⟩
      rcases Nat.lt_succ_iff_lt_or_eq.1 hi with q | rfl
      · exact h2 i q
      · rw [hf]
        exact Nat.testBit_lt_two_pow h1
    | true =>
      refine ⟨2 ^ n + k, by rw [Nat.pow_succ]; omega, fun i hi => ?_⟩
      rcases Nat.lt_succ_iff_lt_or_eq.1 hi with q | rfl
      · rw [Nat.testBit_two_pow_add_gt q]
        exact h2 i q
      · rw [hf, Nat.testBit_two_pow_add_eq, Nat.testBit_lt_two_pow h1]
        rfl
theorem asg_bits (m : Asg) (n : Nat) : ∃ k, k < 2 ^ n ∧ ∀ x : Int, x ≠ 0 → x.natAbs ≤ n → bitV k x = m.v x := by
  obtain ⟨k, h1, h2⟩ := bits_of (fun i => m.v (i + 1)) n
  refine ⟨k, h1, fun x hx hn => ?_⟩
  unfold bitV
  by_cases h : 0 < x
  · rw [if_pos h, h2 _ (by omega)]
    congr 1
    omega
  · rw [if_neg h, h2 _ (by omega), show (((-x).toNat - 1 : Nat) : Int) + 1 = -x by omega, m.opp x hx, Bool.not_not]
def hasMod (n : Nat) (cs : List (List Int)) : Bool := (List.range (2 ^ n)).any fun k => cs.all fun c => c.any (bitV k)
theorem hasMod_iff {n : Nat} {cs : List (List Int)} (h : ∀ c ∈ cs, ∀ x ∈ c, x ≠ 0 ∧ x.natAbs ≤ n) : hasMod n cs = true ↔ ∃ m : Asg, ∀ c ∈ cs, m.Sat c := by
  unfold hasMod
  rw [List.any_eq_true]
  simp only [List.all_eq_true, List.any_eq_true, List.mem_range]
  constructor
  · rintro ⟨k, _, hk⟩
    exact ⟨asgOf k, fun c hc => hk c hc⟩
  · rintro ⟨m, hm⟩
    obtain ⟨k, h1, h2⟩ := asg_bits m n
    refine ⟨k, h1, fun c hc => ?_⟩
    obtain ⟨x, hx, hv⟩ := hm c hc
    exact ⟨x, hx, by rw [h2 x (h c hc x hx).1 (h c hc x hx).2, hv]⟩
end Go.Chk
