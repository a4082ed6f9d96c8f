/- ShHeld: a part of the proof of the seat's statements: lemmas about the given translation and plain laws. No condition of its own. -/
import Derived.Test.YtefjibjojkjiiaaShCom
set_option linter.all false
/- Regions that draw their order, in which some operations only look (at worlds of a class) and the others come one after another: those that look may be taken first. -/
namespace Go.Sh
open Go
section
/-- an operation that only looks -/
def tame (o : Oper) : Bool :=
  match o.op with
  | .move _ | .pick _ _ _ | .load _ _ | .nilCheck _ | .binOp _ _ _ _ _ | .unOp _ _ _ | .fieldAddr _ _ _ | .field _ _ _ | .indexAddr _ _ _ | .index _ _ _ | .lookup _ _ _ _ | .extract _ _ | .slice _ _ _ _ _ => true
  | .call { callee := .builtin b, args := _, argTypes := _ } => match b with | .len | .min | .max => true | _ => false
  | _ => false
def stillL : List Oper → List Bool → List Bool
  | [], acc => acc
  | o :: rest, acc => stillL rest (acc ++ [tame o && (waits o).all (fun j => acc.getD j false)])
def pickL (b : Bool) : List Bool → Nat → List (Nat × Bool)
  | [], _ => []
  | x :: xs, i => bif x == b then (i, b) :: pickL b xs (i + 1) else pickL b xs (i + 1)
/-- those that look, then the others -/
def ordOf (ops : Array Oper) : List (Nat × Bool) := pickL true (stillL ops.toList []) 0 ++ pickL false (stillL ops.toList []) 0
/-- the order holds: each that looks may come up at its turn and is apart from what is left; each other is the only one that may come up -/
def heldB (ops : Array Oper) : List (Nat × Bool) → Array Bool → Bool
  | [], listed => (Region.ready .any ops listed).isEmpty
  | (i, true) :: r, listed => (Region.ready .any ops listed).contains i && Region.free .any ops listed i && heldB ops r (listed.setIfInBounds i true)
  | (i, false) :: r, listed => (Region.ready .any ops listed == [i]) && heldB ops r (listed.setIfInBounds i true)
def heldOk (ops : Array Oper) : Bool := Region.noSelect ops && heldB ops (ordOf ops) (Array.replicate ops.size false) && Nat.beq (ordOf ops).length ops.size
variable {P : Program} {ops : Array Oper} {C : World → Prop}
/-- what an operation asks -/
def runsTo (P : Program) (s : Sem Next) (K : Value → World → Prop) (w : World) : Prop :=
  match s.run P w with
  | .ok (.value v) w' => K v w'
  | .ok .skip w' => K undef w'
  | .ok (.enter f args) w' => Calls P f args w' (fun e w'' => ∃ v, e = .returned v ∧ K v w'')
  | _ => False
theorem runsTo_mono {s : Sem Next} {K K' : Value → World → Prop} {w : World} (h : runsTo P s K w) (hk : ∀ v w', K v w' → K' v w') : runsTo P s K' w := by
  unfold runsTo at *
  generalize s.run P w = r at *
  cases r with
  | halt => exact h.elim
  | ok n w' =>
    cases n <;> try exact h.elim
    · exact hk _ _ h
    · exact hk _ _ h
    · exact Calls.mono h (fun e w'' ⟨v, hv, h⟩ => ⟨v, hv, hk _ _ h⟩)
def Looks (P : Program) (ops : Array Oper) (C : World → Prop) (o : Oper) (a : Act) (v : Value) : Prop :=
  bif Region.wanted o (yielded ops a.tmps) then ∀ w, C w → (execOp a.eval o).run P w = .ok (.value v) w else v = undef
def stepH (P : Program) (ops : Array Oper) (o : Oper) (a : Act) (w : World) (K : Act → World → Prop) : Prop :=
  bif Region.wanted o (yielded ops a.tmps) then runsTo P (execOp a.eval o) (fun v w' => K (a.put o.dst v) w') w else K (a.put o.dst undef) w
theorem stepH_mono {o : Oper} {a : Act} {w : World} {K K' : Act → World → Prop} (h : stepH P ops o a w K) (hk : ∀ v w', K (a.put o.dst v) w' → K' (a.put o.dst v) w') : stepH P ops o a w K' := by
  unfold stepH at *
  cases hw : Region.wanted o (yielded ops a.tmps) with
  | true => rw [hw] at h; exact runsTo_mono h (fun v w' => hk v w')
  | false => rw [hw] at h; exact hk _ _ h
def wpHeld (P : Program) (ops : Array Oper) (C : World → Prop) (Q : Act → World → Prop) : List (Nat × Bool) → Act → World → Prop
  | [], a, w => Q a w
  | (i, true) :: r, a, w => ∃ o, ops[i]? = some o ∧ ∃ v, Looks P ops C o a v ∧ wpHeld P ops C Q r (a.put o.dst v) w
  | (i, false) :: r, a, w => ∃ o, ops[i]? = some o ∧ stepH P ops o a w (fun a' w' => C w' ∧ wpHeld P ops C Q r a' w')
def anyH (P : Program) (ops : Array Oper) (C : World → Prop) (Q : Act → World → Prop) : Nat → Array Bool → Act → World → Prop
  | 0, listed, a, w => C w ∧ Region.ready .any ops listed = [] ∧ Q a w
  | n + 1, listed, a, w => C w ∧ (Region.ready .any ops listed = [] → Q a w) ∧
    ∀ i ∈ Region.ready .any ops listed, ∀ o, ops[i]? = some o → stepH P ops o a w (anyH P ops C Q n (listed.setIfInBounds i true))
theorem anyH_C {Q : Act → World → Prop} {n : Nat} {listed : Array Bool} {a : Act} {w : World} (h : anyH P ops C Q n listed a w) : C w := by
  cases n <;> exact h.1
theorem any_of_held {Q : Act → World → Prop} {Q' : Exit → Act → World → Prop} (hQ : ∀ a w, Q a w → Q' .normal a w) : ∀ (n : Nat) (listed : Array Bool) (a : Act) (w : World),
    anyH P ops C Q n listed a w → wpAny P .any ops Q' n listed a w
  | 0, _, _, _, h => ⟨h.2.1, hQ _ _ h.2.2⟩
  | n + 1, listed, a, w, h => by
    refine ⟨fun h0 => hQ _ _ (h.2.1 h0), fun i hi => ?_⟩
    obtain ⟨_, o, ho, _⟩ := mem_ready.1 hi
    have hs := h.2.2 i hi o ho
    unfold wpOp
    rw [ho]
    show if Region.wanted o (yielded ops a.tmps) = true then _ else _
    unfold stepH at hs
    cases hwant : Region.wanted o (yielded ops a.tmps) with
    | false =>
      rw [hwant] at hs
      rw [if_neg (by simp)]
      exact any_of_held hQ n _ _ _ hs
    | true =>
      rw [hwant] at hs
      rw [if_pos rfl]
      left
      unfold Oper.wp
      revert hs
      show runsTo P (execOp a.eval o) _ w → _
      unfold runsTo
      generalize (execOp a.eval o).run P w = r
      intro hs
      cases r with
      | halt x w' => exact hs.elim
      | ok x w' =>
        cases x with
        | value u => exact any_of_held hQ n _ _ _ hs
        | skip => exact any_of_held hQ n _ _ _ hs
        | enter f args =>
          refine Calls.mono hs ?_
          rintro e w'' ⟨v, rfl, hc⟩
          exact any_of_held hQ n _ _ _ hc
        | _ => exact hs.elim
theorem Looks.put {oi oj : Oper} {a : Act} {v u : Value} (hs : ∀ cs b, oi.op ≠ .select cs b) (h : ∀ d, oj.dst = some d → d ∉ oi.looksAt ops) : Looks P ops C oi (a.put oj.dst u) v ↔ Looks P ops C oi a v := by
  unfold Looks
  rw [wanted_put oi a oj.dst u h, execOp_put oi hs a oj.dst u h]
theorem Looks.step {oi : Oper} {a : Act} {v : Value} {w : World} {K : Act → World → Prop} (h : Looks P ops C oi a v) (hw : C w) (k : K (a.put oi.dst v) w) : stepH P ops oi a w K := by
  unfold Looks at h
  unfold stepH
  cases hwant : Region.wanted oi (yielded ops a.tmps) with
  | false => rw [hwant] at h; have h : v = undef := h; subst h; exact k
  | true =>
    rw [hwant] at h
    have h := h w hw
    show runsTo P (execOp a.eval oi) _ w
    unfold runsTo
    rw [h]
    exact k
theorem held_first {Q : Act → World → Prop} {i : Nat} {oi : Oper} {v : Value} (hi : ops[i]? = some oi) (hsel : ∀ (j : Nat) (o : Oper) cs b, ops[j]? = some o → o.op ≠ .select cs b) :
    ∀ (n : Nat) (listed : Array Bool) (a : Act) (w : World),
      (∀ j oj, ops[j]? = some oj → j ≠ i → listed.getD j true = false → (∀ e ∈ oj.after, Region.binds .any e = true → e.on ≠ i) → oi.apart ops oj = true) →
      i ∈ Region.ready .any ops listed → Looks P ops C oi a v → C w →
      anyH P ops C Q n (listed.setIfInBounds i true) (a.put oi.dst v) w → anyH P ops C Q (n + 1) listed a w := by
  intro n
  induction n with
  | zero =>
    intro listed a w _ hr hy hw H
    refine ⟨hw, fun h => absurd hr (by rw [h]; simp), fun j hj oj hoj => ?_⟩
    by_cases hji : j = i
    · subst hji
      obtain rfl : oi = oj := by rw [hi] at hoj; exact Option.some.inj hoj
      exact hy.step hw H
    · have h1 := ready_mono hj hji
      rw [H.2.1] at h1
      cases h1
  | succ n ih =>
    intro listed a w hfree hr hy hw H
    refine ⟨hw, fun h => absurd hr (by rw [h]; simp), fun j hj oj hoj => ?_⟩
    by_cases hji : j = i
    · subst hji
      obtain rfl : oi = oj := by rw [hi] at hoj; exact Option.some.inj hoj
      exact hy.step hw H
    · obtain ⟨hjun, oj', hoj', hall⟩ := mem_ready.1 hj
      obtain rfl : oj = oj' := by rw [hoj] at hoj'; exact Option.some.inj hoj'
      have hiun := (mem_ready.1 hr).1
      have hnot : ∀ e ∈ oj.after, Region.binds .any e = true → e.on ≠ i := by
        intro e he hb heq
        have h1 := hall e he hb
        rw [heq] at h1
        unfold Array.getD at h1 hiun
        split at h1
        · rename_i hlt
          rw [dif_pos hlt] at hiun
          rw [hiun] at h1
          cases h1
        · cases h1
      have hap := hfree j oj hoj hji hjun hnot
      obtain ⟨h1, h2, h3⟩ := Oper.apart_spec hap
      have hs := H.2.2 j (ready_mono hj hji) oj hoj
      have hs' : stepH P ops oj a w (fun a' w' => anyH P ops C Q n ((listed.setIfInBounds i true).setIfInBounds j true) (a'.put oi.dst v) w') := by
        unfold stepH at hs ⊢
        rw [wanted_put oj a oi.dst v h1, execOp_put oj (fun cs b => hsel j oj cs b hoj) a oi.dst v h1] at hs
        cases hwant : Region.wanted oj (yielded ops a.tmps) with
        | true =>
          rw [hwant] at hs
          exact runsTo_mono hs (fun u w' h => by
            show anyH P ops C Q n _ ((a.put oj.dst u).put oi.dst v) w'
            rw [← Act.put_comm a v u h2]; exact h)
        | false =>
          rw [hwant] at hs
          show anyH P ops C Q n _ ((a.put oj.dst undef).put oi.dst v) w
          rw [← Act.put_comm a v undef h2]; exact hs
      refine stepH_mono hs' (fun u w' hn => ih _ _ _ ?_ (ready_mono hr (fun e => hji e.symm)) ((Looks.put (fun cs b => hsel i oi cs b hi) h3).2 hy) (anyH_C hn) ?_)
      · intro k ok hk hki hun hno
        refine hfree k ok hk hki ?_ hno
        by_cases hjk : j = k
        · subst hjk; exact hjun
        · rw [getD_set_ne true hjk] at hun; exact hun
      · rw [Array.setIfInBounds_comm _ _ hji]
        exact hn
theorem held_lex {Q : Act → World → Prop} (hs : Region.noSelect ops = true) : ∀ (l : List (Nat × Bool)) (listed : Array Bool) (a : Act) (w : World),
    heldB ops l listed = true → C w → wpHeld P ops C Q l a w → anyH P ops C Q l.length listed a w
  | [], listed, a, w, hB, hw, h => ⟨hw, by simpa [heldB] using hB, h⟩
  | (i, true) :: r, listed, a, w, hB, hw, h => by
    simp only [heldB, Bool.and_eq_true] at hB
    obtain ⟨⟨hr, hf⟩, hB'⟩ := hB
    obtain ⟨o, ho, v, hv, hn⟩ := h
    exact held_first ho (Region.noSelect_spec hs) r.length listed a w (Region.free_spec ho hf) (by simpa using hr) hv hw (held_lex hs r _ _ w hB' hw hn)
  | (i, false) :: r, listed, a, w, hB, hw, h => by
    simp only [heldB, Bool.and_eq_true, beq_iff_eq] at hB
    obtain ⟨hr, hB'⟩ := hB
    obtain ⟨o, ho, hs'⟩ := h
    refine ⟨hw, fun h0 => absurd (hr.symm.trans h0) (by simp), fun j hj oj hoj => ?_⟩
    rw [hr, List.mem_singleton] at hj
    subst hj
    obtain rfl : o = oj := by rw [ho] at hoj; exact Option.some.inj hoj
    exact stepH_mono hs' (fun v w' ⟨hc, hn⟩ => held_lex hs r _ _ w' hB' hc hn)
theorem wp_region_held {id : Nat} {Q : Exit → Act → World → Prop} {a : Act} {w : World} (hm : P.follows .mixedOrders = true) (hB : heldOk ops = true) (hC : C { w with drawn := w.drawn + 1 })
    (h : wpHeld P ops C (fun a' w' => Q .normal a' w') (ordOf ops) a { w with drawn := w.drawn + 1 }) : (Code.region id ops true).wp P Q a w := by
  simp only [heldOk, Bool.and_eq_true] at hB
  refine wp_region_any hm (any_of_held (C := C) (Q := fun a' w' => Q .normal a' w') (fun a w h => h) _ _ _ _ ?_)
  have := held_lex hB.1.1 _ _ _ _ hB.1.2 hC h
  rw [Nat.eq_of_beq_eq_true hB.2] at this
  exact this
end
end Go.Sh
