/- Two checkers in one heap: what the one does leaves the other as it was. -/
import Derived.Test.YtmkbnbpblhoekaaVDd
set_option linter.unusedSimpArgs false
set_option linter.unusedVariables false
set_option linter.unusedSectionVars false
namespace Go.Proofs.Ytmkbnbpblhoekaa
open Go.Xr Go.Chk

theorem foot_stay {o : Nat} {h h' : Heap} (hg : ∀ x, Foot h o x → h'.get x = h.get x) : ∀ x, Foot h' o x → Foot h o x := by
  have go : h'.get o = h.get o := hg o (.inl (.inl rfl))
  have hob : ∀ ho, HObj h' o ho → HObj h o ho := by
    rintro ho ⟨cs, mo, kd, ces, ins, id, q1, q2, q3, q4⟩
    rw [go] at q1
    have gm : h'.get mo = h.get mo := hg mo (.inl (.inr ⟨cs, q1, .inl q2⟩))
    rw [gm] at q3
    exact ⟨cs, mo, kd, ces, ins, id, q1, q2, q3, q4⟩
  rintro x (q | ⟨ho, q, r⟩)
  · refine .inl ?_
    unfold Mut at q ⊢
    rw [go] at q
    exact q
  · have q' := hob ho q
    have gh : h'.get ho = h.get ho := hg ho (.inr ⟨ho, q', .inl rfl⟩)
    rw [gh] at r
    exact .inr ⟨ho, q', r⟩
theorem ChkP.stay {b : Nat} {h h' : Heap} {o : Nat} {es : List (Int × List Int)} {last : Int} {ov : Bool} {tr : List Int} (hc : ChkP b h o es last ov tr) (hn : h.next ≤ h'.next) (hg : ∀ x, Foot h o x → h'.get x = h.get x) : ChkP b h' o es last ov tr := by
  obtain ⟨vs, mo, ces, ins, vv, tv, hm, hgd⟩ := hc
  have hmu : ∀ x, Mut h o x → h'.get x = h.get x := fun x q => hg x (.inl q)
  have go := hmu o (.inl rfl)
  have hmut' : ∀ x, Mut h' o x ↔ Mut h o x := fun x => by unfold Mut; rw [go]
  refine ⟨vs, mo, ces, ins, vv, tv, ⟨go.trans hm.get, hm.bo, Nat.lt_of_lt_of_le hm.ho hn, hm.bm, Nat.lt_of_lt_of_le hm.hm hn, hm.om, (hmu mo ((mut_iff hm.get).2 (.inr (.inl rfl)))).trans hm.map, hm.val.frame hn fun x q => hmu x ((mut_iff hm.get).2 (.inr (.inr (.inl q)))), hm.trl.frame hn fun x q => hmu x ((mut_iff hm.get).2 (.inr (.inr (.inr q)))), hm.voff, hm.toff, hm.two, fun id => (hm.held id).imp (fun q => q) ?_, hm.keys⟩, hgd⟩
  rintro ⟨l, ho, lv, sv, h1, h2, h3⟩
  have hob : HObj h o ho := ⟨_, mo, _, ces, ins, id, hm.get, rfl, hm.map, hasKey_mem h2⟩
  have gh := hg ho (.inr ⟨ho, hob, .inl rfl⟩)
  have sl : ∀ {v : V} {xs : List Int}, v ∈ [lv, sv, .bool (both l)] → SlO .i32 h o v xs → SlO .i32 h' o v xs := fun hv hs => ⟨Sl.stayN hs.1 hn fun hne x hx _ => hg x (.inr ⟨ho, hob, .inr ⟨_, _, h3.get, hv, by
    rw [hs.1.len]
    intro e
    exact hne (List.length_eq_zero_iff.1 e), hx⟩⟩), fun hne x hx q => hs.2 hne x hx ((hmut' x).1 q)⟩
  exact ⟨l, ho, lv, sv, h1, h2, ⟨gh.trans h3.get, Nat.lt_of_lt_of_le h3.lt hn, fun q => h3.off ((hmut' ho).1 q), sl (by simp) h3.lits, sl (by simp) h3.set⟩⟩
theorem ChkP.foot_lt {b : Nat} {h : Heap} {o x : Nat} {es : List (Int × List Int)} {last : Int} {ov : Bool} {tr : List Int} (hc : ChkP b h o es last ov tr) (q : Foot h o x) : x < h.next := by
  rcases q with q | ⟨ho, q, r⟩
  · exact hc.lt.2 x q
  · obtain ⟨vs, mo, ces, ins, vv, tv, hm, _⟩ := hc
    obtain ⟨id, lv, sv, l, _, _, hh⟩ := hm.hobj q
    rcases r with rfl | ⟨hs, v, e, hv, hl, hx⟩
    · exact hh.lt
    · rw [hh.get] at e
      rw [← arr_inj e] at hv
      simp only [List.mem_cons, List.not_mem_nil, or_false] at hv
      rcases hv with rfl | rfl | rfl
      · refine hh.lits.lt (fun e => hl ?_) hx
        rw [hh.lits.1.len, e]
        rfl
      · refine hh.set.lt (fun e => hl ?_) hx
        rw [hh.set.1.len, e]
        rfl
      · cases hx
/-- What the answers of two checkers hang on is apart. -/
def Sep (h : Heap) (o o' : Nat) : Prop := ∀ x, Foot h o x → ¬ Foot h o' x
theorem Sep.symm {h : Heap} {o o' : Nat} (hs : Sep h o o') : Sep h o' o := fun x q q' => hs x q' q
theorem Sep.chg {b b' : Nat} {h h' : Heap} {o o' : Nat} {es es' : List (Int × List Int)} {last last' : Int} {ov ov' : Bool} {tr tr' : List Int} (hs : Sep h o o') (hc : ChkP b h o es last ov tr) (hc' : ChkP b' h o' es' last' ov' tr') (c : Chg o h h') : ChkP b' h' o' es' last' ov' tr' ∧ Sep h' o o' := by
  have hg : ∀ x, Foot h o' x → h'.get x = h.get x := fun x q => c.but.get x (hc'.foot_lt q) fun m => hs x (.inl m) q
  refine ⟨hc'.stay c.but.next hg, fun x q q' => ?_⟩
  have q'' := foot_stay hg x q'
  rcases (c.foot hc.wf).2 x q with r | r
  · exact hs x r q''
  · have := hc'.foot_lt q''
    omega
theorem Sep.ext {b b' : Nat} {h h' : Heap} {o o' : Nat} {es es' : List (Int × List Int)} {last last' : Int} {ov ov' : Bool} {tr tr' : List Int} (hs : Sep h o o') (hc : ChkP b h o es last ov tr) (hc' : ChkP b' h o' es' last' ov' tr') (x : Ext h h') : Sep h' o o' :=
  fun y q q' => hs y (foot_stay (fun z r => x.get z (hc.foot_lt r)) y q) (foot_stay (fun z r => x.get z (hc'.foot_lt r)) y q')
end Go.Proofs.Ytmkbnbpblhoekaa
