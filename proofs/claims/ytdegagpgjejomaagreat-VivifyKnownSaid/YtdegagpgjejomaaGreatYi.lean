/- Ranges over maps that change nothing (searches): what X may say of them whatever the order of the keys. -/
import Derived.Test.YtdegagpgjejomaaGreatYh
namespace Go.Xr
open Go.RowKit

/-! ## The shape -/
def parseNext : XCode → Option (Opd × Nat × Nat)
  | .region false [⟨⟨.next it, some tnx, none⟩, []⟩, ⟨⟨.extract (.slot tnx') 0, some tok, none⟩, []⟩] =>
    match Nat.beq tnx tnx' with
    | true => some (it, tnx, tok)
    | false => none
  | _ => none

def parseTest (tok : Nat) : XCode → Option Nat
  | .cond (.slot tok') .skip (.exit L) =>
    match Nat.beq tok tok' with
    | true => some L
    | false => none
  | _ => none

def parseRest : XCode → Option (Nat × List XLine × XCode)
  | .block B (.seq (.region false r2) body) => some (B, r2, body)
  | _ => none

structure MapLoop where
  it : Opd
  tnx : Nat
  tok : Nat
  L : Nat
  B : Nat
  r2 : List XLine
  body : XCode

def MapLoop.rest (m : MapLoop) : XCode := .block m.B (.seq (.region false m.r2) m.body)
def MapLoop.code (m : MapLoop) : XCode := mapLoop m.it m.tnx m.tok m.L m.rest

def parseLoop : XCode → Option MapLoop
  | .loop (.seq a (.seq b c)) =>
    match parseNext a with
    | none => none
    | some (it, tnx, tok) => match parseTest tok b with
      | none => none
      | some L => match parseRest c with
        | none => none
        | some (B, r2, body) => some ⟨it, tnx, tok, L, B, r2, body⟩
  | _ => none

theorem parseNext_eq {c : XCode} {it : Opd} {tnx tok : Nat} (h : parseNext c = some (it, tnx, tok)) : c = .region false ((nextLines it tnx tok).map fun s => { step := s, again := [] }) := by
  unfold parseNext at h
  split at h
  · split at h <;> simp at h
    rename_i e
    obtain ⟨rfl, rfl, rfl⟩ := h
    have e := Nat.eq_of_beq_eq_true e
    subst e
    rfl
  · cases h

theorem parseTest_eq {c : XCode} {tok L : Nat} (h : parseTest tok c = some L) : c = .cond (.slot tok) .skip (.exit L) := by
  unfold parseTest at h
  split at h
  · split at h <;> simp at h
    rename_i e
    subst h
    have e := Nat.eq_of_beq_eq_true e
    subst e
    rfl
  · cases h

theorem parseRest_eq {c body : XCode} {B : Nat} {r2 : List XLine} (h : parseRest c = some (B, r2, body)) : c = .block B (.seq (.region false r2) body) := by
  unfold parseRest at h
  split at h <;> simp at h
  obtain ⟨rfl, rfl, rfl⟩ := h
  rfl

theorem parseLoop_eq {c : XCode} {m : MapLoop} (h : parseLoop c = some m) : c = m.code := by
  unfold parseLoop at h
  split at h
  · split at h
    · cases h
    · rename_i h1
      split at h
      · cases h
      · rename_i h2
        split at h
        · cases h
        · rename_i h3
          simp only [Option.some.injEq] at h
          subst h
          rw [parseNext_eq h1, parseTest_eq h2, parseRest_eq h3]
          rfl
  · cases h

/-- The slots that code sets. -/
def setLines : List XLine → List Nat → List Nat
  | [], acc => acc
  | l :: ls, acc => match l.step.dst with
    | some i => setLines ls (i :: acc)
    | none => setLines ls acc
def setCode : XCode → List Nat → List Nat
  | .region _ ls, acc => setLines ls acc
  | .seq a b, acc => setCode a (setCode b acc)
  | .cond _ a b, acc => setCode a (setCode b acc)
  | .block _ a, acc => setCode a acc
  | .loop a, acc => setCode a acc
  | .scope a, acc => setCode a acc
  | _, acc => acc

def anyAll (t : Tr V) : List Nat → Tr V
  | [] => t
  | i :: l => anyAll (t.set i .any) l

/-! ## What a key's entry sets -/
def r2Step (oi : Nat) (kv : V) (t : Tr V) (s : XStep) : Option (Tr V) :=
  match s.guard with
  | some _ => none
  | none => match s.op with
    | .entry it => match rd t it with
      | .iter o => match Nat.beq o oi with
        | true => some (putOpt t s.dst kv)
        | false => none
      | _ => none
    | .extract x j => match rd t x with
      | .tup vs => match vs[j]? with
        | some v => some (putOpt t s.dst v)
        | none => none
      | _ => none
    | .mv x => some (putOpt t s.dst (rd t x))
    | _ => none

def r2Lines (oi : Nat) (kv : V) : List XLine → Tr V → Option (Tr V)
  | [], t => some t
  | l :: ls, t => match l.again with
    | [] => match r2Step oi kv t l.step with
      | some t => r2Lines oi kv ls t
      | none => none
    | _ :: _ => none

def sortedKeys : List (Int × V) → Bool
  | (a, _) :: (b, w) :: r => decide (a < b) && sortedKeys ((b, w) :: r)
  | _ => true

section
variable [RoLim] {P : Program} {rnd : Option Nat} {d : List XDef} {h : Heap}

omit [RoLim] in
theorem sortedKeys_sound : ∀ {es : List (Int × V)}, sortedKeys es = true → es.Pairwise fun a b => a.1 < b.1
  | [], _ => .nil
  | [_], _ => List.pairwise_singleton ..
  | (a, v) :: (b, w) :: r, h => by
    simp [sortedKeys] at h
    have ih := sortedKeys_sound h.2
    refine .cons (fun p hp => ?_) ih
    rcases List.mem_cons.1 hp with rfl | hp
    · exact h.1
    · have := (List.pairwise_cons.1 ih).1 p hp
      show a < p.1
      omega

omit [RoLim] in
theorem hasKey_of_sorted {k : Int} {v : V} : ∀ {es : List (Int × V)}, es.Pairwise (fun a b => a.1 < b.1) → (k, v) ∈ es → hasKey k es = some v
  | [], _, hm => by cases hm
  | (a, x) :: r, hp, hm => by
    obtain ⟨h1, h2⟩ := List.pairwise_cons.1 hp
    rcases List.mem_cons.1 hm with e | hm
    · cases e; simp [hasKey]
    · have := h1 _ hm
      have hne : a ≠ k := by
        have : a < k := this
        omega
      simp [hasKey, hne]
      exact hasKey_of_sorted h2 hm

omit [RoLim] in
theorem same_of_key {p q : Int × V} : ∀ {es : List (Int × V)}, es.Pairwise (fun a b => a.1 < b.1) → p ∈ es → q ∈ es → p.1 = q.1 → p = q
  | [], _, hm, _, _ => by cases hm
  | a :: r, hp, hm, hm', e => by
    obtain ⟨h1, h2⟩ := List.pairwise_cons.1 hp
    rcases List.mem_cons.1 hm with q1 | q1
    · rcases List.mem_cons.1 hm' with q2 | q2
      · rw [q1, q2]
      · have := h1 _ q2; rw [← q1] at this; omega
    · rcases List.mem_cons.1 hm' with q2 | q2
      · have := h1 _ q1; rw [← q2] at this; omega
      · exact same_of_key h2 q1 q2 e

omit [RoLim] in
theorem leftOf_len_le (k : Int) (seen : List Int) : ∀ (es : List (Int × V)), (leftOf (k :: seen) es).length ≤ (leftOf seen es).length
  | [] => Nat.le_refl _
  | (a, x) :: r => by
    have ih := leftOf_len_le k seen r
    unfold leftOf
    by_cases h1 : seen.any (fun b => decide (b = a)) = true
    · have : (k :: seen).any (fun b => decide (b = a)) = true := by simp at h1 ⊢; exact .inr h1
      rw [h1, this]
      exact ih
    · have h1 : seen.any (fun b => decide (b = a)) = false := eq_false_of_ne_true h1
      rw [h1]
      split
      · exact Nat.le_succ_of_le ih
      · exact Nat.succ_le_succ ih

omit [RoLim] in
theorem leftOf_len {k : Int} {v : V} {seen : List Int} : ∀ {es : List (Int × V)}, (k, v) ∈ leftOf seen es → (leftOf (k :: seen) es).length < (leftOf seen es).length
  | [], hm => by cases hm
  | (a, x) :: r, hm => by
    have hle := leftOf_len_le k seen r
    unfold leftOf at hm ⊢
    by_cases h1 : seen.any (fun b => decide (b = a)) = true
    · have : (k :: seen).any (fun b => decide (b = a)) = true := by simp at h1 ⊢; exact .inr h1
      rw [h1] at hm ⊢
      rw [this]
      exact leftOf_len hm
    · have h1 : seen.any (fun b => decide (b = a)) = false := eq_false_of_ne_true h1
      rw [h1] at hm ⊢
      by_cases e : k = a
      · have : (k :: seen).any (fun b => decide (b = a)) = true := by simp [e]
        rw [this]
        exact Nat.lt_succ_of_le hle
      · have : (k :: seen).any (fun b => decide (b = a)) = false := by simp at h1 ⊢; exact ⟨e, h1⟩
        rw [this]
        rcases List.mem_cons.1 hm with q | hm
        · cases q; exact absurd rfl e
        · exact Nat.succ_lt_succ (leftOf_len hm)

theorem r2_steps {oi mo ins : Nat} {seen : List Int} {k : Int} {v : V} {kd : IntKind} {es : List (Int × V)} (hgi : h.get oi = some (.miter (some mo) ins seen (some k))) (hgm : h.get mo = some (.map kd es ins)) (hk : hasKey k es = some v) {t2 : Tr V} {Q : Tr V → List XDef → Heap → Prop} (q : Q t2 d h) :
    ∀ {ls : List XLine} {t : Tr V}, r2Lines oi (.tup [.int kd k, v]) ls t = some t2 → (∃ ss : List XStep, ls = ss.map (fun s => { step := s, again := [] }) ∧ StepsWP P rnd ss t d h Q)
  | [], t, hr => by
    simp only [r2Lines, Option.some.injEq] at hr
    subst hr
    exact ⟨[], rfl, q⟩
  | ⟨s, again⟩ :: ls, t, hr => by
    simp only [r2Lines] at hr
    cases again with
    | cons a b => cases hr
    | nil =>
      simp only at hr
      split at hr <;> try (cases hr; done)
      rename_i t1 hs
      obtain ⟨ss, e1, e2⟩ := r2_steps hgi hgm hk q hr
      refine ⟨s :: ss, by rw [e1]; rfl, ?_⟩
      unfold r2Step at hs
      split at hs
      · cases hs
      · rename_i hgd
        have hw : wantedV t s.guard = some true := by rw [hgd]; rfl
        split at hs
        · rename_i it hop
          split at hs <;> try (cases hs; done)
          rename_i o ho
          split at hs <;> simp at hs
          rename_i hb
          have hb := Nat.eq_of_beq_eq_true hb
          subst hb
          subst hs
          exact step_op hw (v := .tup [.int kd k, v]) (h' := h) (by rw [hop]; simp [opEv, ho, hgi, hgm, hk]) e2
        · rename_i x j hop
          split at hs <;> try (cases hs; done)
          rename_i vs hx
          split at hs <;> simp at hs
          rename_i v1 hv1
          subst hs
          exact step_op hw (v := v1) (h' := h) (by rw [hop]; simp [opEv, hx, hv1]) e2
        · rename_i x hop
          simp only [Option.some.injEq] at hs
          subst hs
          exact step_op hw (v := rd t x) (h' := h) (by rw [hop]; rfl) e2
        · cases hs

theorem r2_code {oi mo ins : Nat} {seen : List Int} {k : Int} {v : V} {kd : IntKind} {es : List (Int × V)} (hgi : h.get oi = some (.miter (some mo) ins seen (some k))) (hgm : h.get mo = some (.map kd es ins)) (hk : hasKey k es = some v) {t t2 : Tr V} {ls : List XLine} (hr : r2Lines oi (.tup [.int kd k, v]) ls t = some t2)
    {Q : XExit → Tr V → List XDef → Heap → Prop} (q : Q .normal t2 d h) : CodeWP P (.region false ls) rnd t d h Q := by
  obtain ⟨ss, e1, e2⟩ := r2_steps (P := P) (rnd := rnd) hgi hgm hk (Q := fun t d h => Q .normal t d h) q hr
  rw [e1]
  exact code_plain e2
end

/-! ## The search -/
section
variable (ih : Task → Option Out)

/-- What the body does at one key: none: X can't tell; some none: it goes on; some (some ..): it leaves. -/
def keyOut (m : MapLoop) (oi : Nat) (rnd : Option Nat) (tI : Tr V) (d : List XDef) (hH : Heap) (kd : IntKind) (k : Int) (v : V) : Option (Option (XExit × Tr V)) :=
  match r2Lines oi (.tup [.int kd k, v]) m.r2 ((tI.set m.tnx (.tup [.bool true, .int kd k, v])).set m.tok (.bool true)) with
  | none => none
  | some t2 => match ih (.code m.body rnd t2 d hH) with
    | some (.code e t3 d3 h3) => match defsSame d3 d && hFits h3 hH with
      | false => none
      | true => match e with
        | .normal => match tFits t3 tI with
          | true => some none
          | false => none
        | .exit i => match Nat.beq i m.B with
          | true => match tFits t3 tI with
            | true => some none
            | false => none
          | false => some (some (.exit i, t3))
        | .ret => some (some (.ret, t3))
    | _ => none

def exitsOf (f : Int → V → Option (Option (XExit × Tr V))) : List (Int × V) → Option (List (XExit × Tr V))
  | [] => some []
  | (k, v) :: r => match f k v with
    | none => none
    | some none => exitsOf f r
    | some (some x) => match exitsOf f r with
      | some xs => some (x :: xs)
      | none => none

def joinAll : Tr V → List (XExit × Tr V) → Tr V
  | t, [] => t
  | t, (_, t') :: r => joinAll (tJoin t t') r

def allFit (e : XExit) (t : Tr V) : List (XExit × Tr V) → Bool
  | [] => true
  | (e', t') :: r => exitSame e' e && (tFits t' t && allFit e t r)

def searchHook : Task → Option Out
  | .code c rnd t d h => match parseLoop c with
    | none => none
    | some m =>
      match anyAll t (m.tnx :: m.tok :: setLines m.r2 (setCode m.body [])) with
      | tI => match tFits t tI, rd tI m.it with
        | true, .iter oi => match h.get oi with
          | some (.miter (some mo) ins seen _) => match h.get mo with
            | some (.map kd es ins') => match Nat.beq ins ins' && sortedKeys es with
              | false => none
              | true =>
                let hH := (h.put oi (.dead false)).put mo (.dead false)
                let hF := (hH.put oi (.dead true)).put mo (.map kd es (Nat.succ (ins + es.length)))
                match exitsOf (keyOut ih m oi rnd tI d hH kd) (leftOf seen es) with
                | none => none
                | some [] => some (.code (.exit m.L) ((tI.set m.tnx (.tup [.bool false])).set m.tok (.bool false)) d hF)
                | some ((e, t3) :: xs) => match joinAll t3 xs with
                  | tM => match allFit e tM ((e, t3) :: xs) with
                    | true => some (.code e tM d hF)
                    | false => none
            | _ => none
          | _ => none
        | _, _ => none
  | _ => none
end

theorem exitsOf_spec {f : Int → V → Option (Option (XExit × Tr V))} : ∀ {l : List (Int × V)} {xs : List (XExit × Tr V)}, exitsOf f l = some xs →
    (∀ p ∈ l, f p.1 p.2 = some none ∨ ∃ x ∈ xs, f p.1 p.2 = some (some x)) ∧ (∀ x ∈ xs, ∃ p ∈ l, f p.1 p.2 = some (some x))
  | [], xs, h => by
    simp only [exitsOf, Option.some.injEq] at h
    subst h
    exact ⟨fun p hp => (by cases hp), fun x hx => (by cases hx)⟩
  | (k, v) :: r, xs, h => by
    simp only [exitsOf] at h
    split at h
    · cases h
    · rename_i hf
      obtain ⟨a, b⟩ := exitsOf_spec h
      refine ⟨fun p hp => ?_, fun x hx => let ⟨p, hp, e⟩ := b x hx; ⟨p, List.mem_cons_of_mem _ hp, e⟩⟩
      rcases List.mem_cons.1 hp with rfl | hp
      · exact .inl hf
      · exact a p hp
    · rename_i x hf
      split at h <;> simp at h
      rename_i xs' hr
      subst h
      obtain ⟨a, b⟩ := exitsOf_spec hr
      refine ⟨fun p hp => ?_, fun y hy => ?_⟩
      · rcases List.mem_cons.1 hp with rfl | hp
        · exact .inr ⟨x, List.mem_cons_self, hf⟩
        · exact (a p hp).imp id fun ⟨y, hy, e⟩ => ⟨y, List.mem_cons_of_mem _ hy, e⟩
      · rcases List.mem_cons.1 hy with rfl | hy
        · exact ⟨(k, v), List.mem_cons_self, hf⟩
        · obtain ⟨p, hp, e⟩ := b y hy
          exact ⟨p, List.mem_cons_of_mem _ hp, e⟩

theorem allFit_spec {e : XExit} {t : Tr V} : ∀ {xs : List (XExit × Tr V)}, allFit e t xs = true → ∀ x ∈ xs, x.1 = e ∧ TFits x.2 t
  | [], _, x, hx => by cases hx
  | (e', t') :: r, h, x, hx => by
    simp [allFit] at h
    rcases List.mem_cons.1 hx with rfl | hx
    · exact ⟨exitSame_eq h.1, tFits_sound h.2.1⟩
    · exact allFit_spec h.2.2 x hx

section
variable [RoLim] {P : Program} {ih : Task → Option Out}

omit [RoLim] in
theorem vFits_iter {v : V} {o : Nat} (h : vFits v (.iter o) = true) : v = .iter o := V.same_eq _ _ h

/-- What is so behind a key's round. -/
def KeyPost (P : Program) (tI : Tr V) (d : List XDef) (hN : Heap) (r : Option (XExit × Tr V)) (e : XExit) (t1 : Tr V) (d1 : List XDef) (h1 : Heap) : Prop :=
  (match r with | none => e = .normal ∧ t1 = tI | some (e', t') => e ≠ .normal ∧ e = e' ∧ t1 = t') ∧ d1 = d ∧ HeapW P h1 hN

/-- One key's round, with the map and the range's place as they are. -/
theorem key_code (S : Sound P ih) {m : MapLoop} {oi mo ins : Nat} {rnd : Option Nat} {tI : Tr V} {d : List XDef} {hH h : Heap} {kd : IntKind} {es : List (Int × V)} {k : Int} {v : V} {seen : List Int} {r : Option (XExit × Tr V)}
    (hr : keyOut ih m oi rnd tI d hH kd k v = some r) (hgi : h.get oi = some (.miter (some mo) ins seen (some k))) (hgm : h.get mo = some (.map kd es ins)) (hk : hasKey k es = some v)
    (hn : h.next = hH.next) (hg : ∀ o, o ≠ oi → o ≠ mo → h.get o = hH.get o) (hdi : hH.get oi = some (.dead false)) (hdm : hH.get mo = some (.dead false)) :
    CodeWP P m.rest rnd ((tI.set m.tnx (.tup [.bool true, .int kd k, v])).set m.tok (.bool true)) d h (KeyPost P tI d ((hH.put oi (.miter (some mo) (ins + 1) seen (some k))).put mo (.map kd es (ins + 1))) r) := by
  unfold keyOut at hr
  split at hr
  · cases hr
  rename_i t2 h2
  split at hr <;> try (cases hr; done)
  rename_i e t3 d3 h3 hb
  split at hr
  · cases hr
  rename_i hsame
  simp only [Bool.and_eq_true] at hsame
  have ed := defsSame_eq hsame.1
  subst ed
  have hH3 := hFits_sound (P := P) hsame.2
  have hne : mo ≠ oi := fun q => by rw [q, hgi] at hgm; cases hgm
  have hgH : ∀ o, ((h.put oi (.dead false)).put mo (.dead false)).get o = hH.get o := fun o => by
    rw [Heap.get_put, Heap.get_put]
    by_cases e1 : o = mo
    · rw [if_pos e1, e1, hdm]
    · rw [if_neg e1]
      by_cases e2 : o = oi
      · rw [if_pos e2, e2, hdi]
      · rw [if_neg e2]; exact hg o e2 e1
  have to : HeapW P ((h.put oi (.dead false)).put mo (.dead false)) hH := HeapW.of_get (by simp [hn]) fun o => (hgH o).symm
  have from' : HeapW P hH ((h.put oi (.dead false)).put mo (.dead false)) := HeapW.of_get (by simp [hn]) hgH
  -- the body, with both put aside
  have body : ∀ (tE : Tr V), TFits t3 tE → CodeWP P m.body rnd t2 d3 h fun e1 t1 d1 h1 => (e1 = e ∧ t1 = tE ∧ d1 = d3) ∧ h1 = (((h.put oi (.dead false)).put mo (.dead false)).put oi (.miter (some mo) (ins + 1) seen (some k))).put mo (.map kd es (ins + 1)) := by
    intro tE hE
    refine code_hide (q := fun e1 t1 d1 => e1 = e ∧ t1 = tE ∧ d1 = d3) hgi hgm (CodeWP.pre ?_ (TFits.refl _) to)
    exact CodeWP.weak (S _ _ hb) fun e1 t1 d1 h1 ⟨a1, a2, a3, a4⟩ => ⟨tE, _, by rw [a2]; exact hE, by rw [a4]; exact hH3.trans from', ⟨⟨a1, rfl, a3⟩, rfl⟩⟩
  have fin : HeapW P ((((h.put oi (.dead false)).put mo (.dead false)).put oi (.miter (some mo) (ins + 1) seen (some k))).put mo (.map kd es (ins + 1))) ((hH.put oi (.miter (some mo) (ins + 1) seen (some k))).put mo (.map kd es (ins + 1))) :=
    HeapW.of_get (by simp [hn]) fun o => by
      rw [Heap.get_put, Heap.get_put, Heap.get_put _ mo, Heap.get_put _ oi, hgH]
  unfold MapLoop.rest
  refine code_block (code_seq (r2_code hgi hgm hk h2 ?_))
  cases e with
  | normal =>
    simp only at hr
    split at hr <;> simp at hr
    rename_i ht
    subst hr
    refine (body tI (tFits_sound ht)).mono fun e1 t1 d1 h1 ⟨⟨a1, a2, a3⟩, a4⟩ => ?_
    subst a1; subst a2; subst a3; subst a4
    exact ⟨⟨rfl, rfl⟩, rfl, fin⟩
  | exit i =>
    simp only at hr
    split at hr
    · rename_i hi
      have hi := Nat.eq_of_beq_eq_true hi
      split at hr <;> simp at hr
      rename_i ht
      subst hr
      refine (body tI (tFits_sound ht)).mono fun e1 t1 d1 h1 ⟨⟨a1, a2, a3⟩, a4⟩ => ?_
      subst a1; subst a2; subst a3; subst a4
      exact ⟨fun _ => ⟨⟨rfl, rfl⟩, rfl, fin⟩, fun hne => absurd hi hne⟩
    · rename_i hi
      simp only [Option.some.injEq] at hr
      subst hr
      refine (body t3 (TFits.refl _)).mono fun e1 t1 d1 h1 ⟨⟨a1, a2, a3⟩, a4⟩ => ?_
      subst a1; subst a2; subst a3; subst a4
      exact ⟨fun he => absurd he (nat_beq_ne hi), fun _ => ⟨⟨by simp, rfl, rfl⟩, rfl, fin⟩⟩
  | ret =>
    simp only [Option.some.injEq] at hr
    subst hr
    refine (body t3 (TFits.refl _)).mono fun e1 t1 d1 h1 ⟨⟨a1, a2, a3⟩, a4⟩ => ?_
    subst a1; subst a2; subst a3; subst a4
    exact ⟨⟨by simp, rfl, rfl⟩, rfl, fin⟩

theorem search_code (S : Sound P ih) {m : MapLoop} {oi mo ins : Nat} {rnd : Option Nat} {t tI : Tr V} {d : List XDef} {h : Heap} {kd : IntKind} {es : List (Int × V)} {seen0 : List Int} {cur0 : Option Int} {xs : List (XExit × Tr V)} {eF : XExit} {tF : Tr V}
    (hti : TFits t tI) (hit : rd tI m.it = .iter oi) (hgi : h.get oi = some (.miter (some mo) ins seen0 cur0)) (hgm : h.get mo = some (.map kd es ins)) (hsort : es.Pairwise fun a b => a.1 < b.1)
    (hx : exitsOf (keyOut ih m oi rnd tI d ((h.put oi (.dead false)).put mo (.dead false)) kd) (leftOf seen0 es) = some xs)
    (hout : (xs = [] ∧ eF = .exit m.L ∧ tF = (tI.set m.tnx (.tup [.bool false])).set m.tok (.bool false)) ∨ (xs ≠ [] ∧ ∀ x ∈ xs, x.1 = eF ∧ TFits x.2 tF)) :
    CodeWP P m.code rnd t d h fun e t1 d1 h1 => e = eF ∧ t1 = tF ∧ d1 = d ∧ h1 = (((h.put oi (.dead false)).put mo (.dead false)).put oi (.dead true)).put mo (.map kd es (Nat.succ (ins + es.length))) := by
  have hne : mo ≠ oi := fun q => by rw [q, hgi] at hgm; cases hgm
  generalize hHe : (h.put oi (.dead false)).put mo (.dead false) = hH at *
  have hgH : ∀ o, hH.get o = if o = mo then some (.dead false) else if o = oi then some (.dead false) else h.get o := fun o => by rw [← hHe, Heap.get_put, Heap.get_put]
  have hnH : hH.next = h.next := by rw [← hHe]; rfl
  obtain ⟨x1, x2⟩ := exitsOf_spec hx
  -- what a heap under way comes to
  have fin : ∀ (seen : List Int) (cur : Option Int) (j : Nat), j ≤ ins + es.length → HeapW P ((hH.put oi (.miter (some mo) j seen cur)).put mo (.map kd es j)) ((hH.put oi (.dead true)).put mo (.map kd es (Nat.succ (ins + es.length)))) := by
    intro seen cur j hj
    have g1 : ((hH.put oi (.miter (some mo) j seen cur)).put mo (.map kd es j)).get oi = some (.miter (some mo) j seen cur) := by rw [Heap.get_put, if_neg (Ne.symm hne), Heap.get_put, if_pos rfl]
    refine (HeapW.forget g1).trans ((HeapW.bump (o := mo) (ins := j) (ins2 := Nat.succ (ins + es.length)) (kd := kd) (es := es) ?_ (Nat.lt_succ_of_le hj)).trans (HeapW.of_get rfl fun o => ?_))
    · rw [Heap.get_put, if_neg hne, Heap.get_put, if_pos rfl]
    · simp only [Heap.get_put]
      by_cases e1 : o = mo
      · simp [e1]
      · by_cases e2 : o = oi
        · simp [e2]
        · simp [e1, e2]
  have hlen : ∀ seen, (leftOf seen es).length ≤ es.length := by
    intro seen
    induction es with
    | nil => exact Nat.le_refl _
    | cons a r ih' =>
      obtain ⟨a1, a2⟩ := a
      have : ∀ r : List (Int × V), (leftOf seen r).length ≤ r.length := by
        intro r
        induction r with
        | nil => exact Nat.le_refl _
        | cons a r ih'' =>
          obtain ⟨a1, a2⟩ := a
          unfold leftOf
          split
          · exact Nat.le_succ_of_le ih''
          · exact Nat.succ_le_succ ih''
      exact this _
  let Q : XExit → Tr V → List XDef → Heap → Prop := fun e t1 d1 h1 => ∃ t2 h2, TFits t1 t2 ∧ HeapW P h1 h2 ∧ (e = eF ∧ t2 = tF ∧ d1 = d ∧ h2 = (hH.put oi (.dead true)).put mo (.map kd es (Nat.succ (ins + es.length))))
  let Inv : Nat → Tr V → List XDef → Heap → Prop := fun n t1 d1 h1 => t1 = tI ∧ d1 = d ∧ ∃ seen cur j, n = (leftOf seen es).length ∧ j + n ≤ ins + es.length ∧ (∀ p ∈ leftOf seen es, p ∈ leftOf seen0 es) ∧
    (∀ p ∈ leftOf seen0 es, keyOut ih m oi rnd tI d hH kd p.1 p.2 ≠ some none → p ∈ leftOf seen es) ∧ h1.next = hH.next ∧ (∀ o, h1.get o = ((hH.put oi (.miter (some mo) j seen cur)).put mo (.map kd es j)).get o)
  have start : Inv (leftOf seen0 es).length tI d h := by
    refine ⟨rfl, rfl, seen0, cur0, ins, rfl, by have := hlen seen0; omega, fun p hp => hp, fun p hp _ => hp, hnH.symm, fun o => ?_⟩
    rw [Heap.get_put, Heap.get_put, hgH]
    by_cases e1 : o = mo
    · rw [if_pos e1, e1, hgm]
    · rw [if_neg e1]
      by_cases e2 : o = oi
      · rw [if_pos e2, e2, hgi]
      · rw [if_neg e2, if_neg e1, if_neg e2]
  refine CodeWP.pre (t2 := tI) (h2 := h) ?_ hti (HeapW.refl _)
  refine CodeWP.weak (Q := Q) ?_ (fun e t1 d1 h1 q => q)
  refine code_mapLoop Inv ?_ _ tI d h start
  intro n t1 d1 h1 ⟨e1, e2, seen, cur, j, e3, e4, e5, e6, e7, e8⟩
  subst e1; subst e2; subst e3
  have g1 : h1.get oi = some (.miter (some mo) j seen cur) := by rw [e8, Heap.get_put, if_neg (Ne.symm hne), Heap.get_put, if_pos rfl]
  have g2 : h1.get mo = some (.map kd es j) := by rw [e8, Heap.get_put, if_pos rfl]
  have hw1 : HeapW P h1 ((hH.put oi (.miter (some mo) j seen cur)).put mo (.map kd es j)) := HeapW.of_get (by simp [e7]) fun o => (e8 o).symm
  refine step_next rfl rfl hit g1 g2 (fun hl => ?_) (fun k v hkv => ?_)
  · refine ⟨rfl, false, [], rfl, fun _ => ?_, fun hf => by cases hf⟩
    have hxs : xs = [] := by
      cases xs with
      | nil => rfl
      | cons x r =>
        obtain ⟨p, hp, hpe⟩ := x2 x List.mem_cons_self
        have := e6 p hp (by rw [hpe]; simp)
        rw [hl] at this
        cases this
    rcases hout with ⟨_, q2, q3⟩ | ⟨q1, _⟩
    · exact ⟨tF, _, by rw [q3]; exact TFits.refl _, hw1.trans (fin seen cur j (by omega)), q2.symm, rfl, rfl, rfl⟩
    · exact absurd hxs q1
  · refine ⟨rfl, true, [.int kd k, v], rfl, (fun hf => by cases hf), fun _ => ?_⟩
    have hin := e5 _ hkv
    have hes : (k, v) ∈ es := (mem_leftOf.1 hkv).1
    have hk := hasKey_of_sorted hsort hes
    have gi : (h1.put oi (.miter (some mo) j (k :: seen) (some k))).get oi = some (.miter (some mo) j (k :: seen) (some k)) := by rw [Heap.get_put, if_pos rfl]
    have gm : (h1.put oi (.miter (some mo) j (k :: seen) (some k))).get mo = some (.map kd es j) := by rw [Heap.get_put, if_neg hne]; exact g2
    have rest : ∀ r, keyOut ih m oi rnd t1 d1 hH kd k v = some r → CodeWP P m.rest rnd ((t1.set m.tnx (.tup [.bool true, .int kd k, v])).set m.tok (.bool true)) d1 (h1.put oi (.miter (some mo) j (k :: seen) (some k))) (KeyPost P t1 d1 ((hH.put oi (.miter (some mo) (j + 1) (k :: seen) (some k))).put mo (.map kd es (j + 1))) r) := fun r hr => key_code S hr gi gm hk (by simp [e7]) (fun o f1 f2 => by rw [Heap.get_put, if_neg f1, e8, Heap.get_put, if_neg f2, Heap.get_put, if_neg f1]) (by rw [hgH, if_neg (Ne.symm hne), if_pos rfl]) (by rw [hgH, if_pos rfl])
    have hpos : (leftOf (k :: seen) es).length < (leftOf seen es).length := leftOf_len hkv
    rcases x1 _ hin with hr | ⟨x, hxm, hr⟩
    · refine (rest none hr).weak fun e t1' d1' h1' ⟨⟨a1, a2⟩, a3, a4⟩ => ?_
      subst a1; subst a2; subst a3
      refine ⟨_, _, TFits.refl _, a4, (leftOf (k :: seen) es).length, hpos, rfl, rfl, k :: seen, some k, j + 1, rfl, by omega, fun p hp => ?_, fun p hp hpn => ?_, rfl, fun o => rfl⟩
      · refine e5 p ?_
        obtain ⟨b1, b2⟩ := mem_leftOf.1 hp
        exact mem_leftOf.2 ⟨b1, fun q => b2 (List.mem_cons_of_mem _ q)⟩
      · have := e6 p hp hpn
        obtain ⟨b1, b2⟩ := mem_leftOf.1 this
        refine mem_leftOf.2 ⟨b1, fun q => ?_⟩
        rcases List.mem_cons.1 q with q | q
        · have := same_of_key hsort b1 hes q
          subst this
          exact hpn hr
        · exact b2 q
    · refine (rest (some x) hr).weak fun e t1' d1' h1' ⟨⟨a0, a1, a2⟩, a3, a4⟩ => ?_
      have hq : Q e t1' d1' ((hH.put oi (.miter (some mo) (j + 1) (k :: seen) (some k))).put mo (.map kd es (j + 1))) := by
        subst a1; subst a2; subst a3
        rcases hout with ⟨q1, _⟩ | ⟨_, q⟩
        · rw [q1] at hxm; cases hxm
        · exact ⟨tF, _, (q x hxm).2, fin _ _ _ (by omega), (q x hxm).1, rfl, rfl, rfl⟩
      refine ⟨t1', _, TFits.refl _, a4, ?_⟩
      cases e with
      | normal => exact absurd rfl a0
      | exit i => exact hq
      | ret => exact hq

theorem searchHook_sound (S : Sound P ih) : Sound P (searchHook ih) := by
  intro k r hk
  unfold searchHook at hk
  split at hk
  · rename_i c rnd t d h
    split at hk
    · cases hk
    · rename_i m hm
      have hc := parseLoop_eq hm
      subst hc
      simp only at hk
      split at hk
      · rename_i oi htf hrd
        split at hk <;> try (cases hk; done)
        rename_i mo ins seen cur hgi
        split at hk <;> try (cases hk; done)
        rename_i kd es ins' hgm
        split at hk
        · cases hk
        · rename_i hins
          simp only [Bool.and_eq_true] at hins
          have e := Nat.eq_of_beq_eq_true hins.1
          subst e
          have hs := sortedKeys_sound hins.2
          split at hk
          · cases hk
          · rename_i hx
            simp only [Option.some.injEq] at hk
            subst hk
            exact search_code S (tFits_sound htf) hrd hgi hgm hs hx (.inl ⟨rfl, rfl, rfl⟩)
          · rename_i e t3 xs hx
            split at hk <;> simp at hk
            rename_i hf
            subst hk
            exact search_code S (tFits_sound htf) hrd hgi hgm hs hx (.inr ⟨by simp, allFit_spec hf⟩)
      · cases hk
  · cases hk
end
end Go.Xr
