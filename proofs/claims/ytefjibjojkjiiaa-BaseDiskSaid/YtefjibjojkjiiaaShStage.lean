/- ShStage: a part of the proof of the seat's statements: lemmas about the given translation and plain laws. No condition of its own. -/
import Derived.Test.YtefjibjojkjiiaaShHeld
set_option linter.all false
/- Regions that draw their order, as in ShHeld, but the class of worlds goes by the number of writing operations that have been done; an operation that looks has to look right only as long as it may still be pending. -/
namespace Go.Sh
open Go
section
variable {P : Program} {ops : Array Oper} {C : Nat → World → Prop} {ws : List Nat}
def upto (C : Nat → World → Prop) (n : Nat) (w : World) : Prop := ∃ s, s ≤ n ∧ C s w
def wsOf (l : List (Nat × Bool)) : List Nat := l.filterMap (fun x => bif x.2 then none else some x.1)
def stage (ws : List Nat) (listed : Array Bool) : Nat := (ws.filter (fun j => listed.getD j false)).length
/-- all that may be done without i -/
def closI (ops : Array Oper) (i : Nat) : Array Bool :=
  (List.range ops.size).foldl (fun cl j => bif !Nat.beq j i && (match ops[j]? with | some o => (waits o).all (fun d => cl.getD d false) | none => false) then cl.setIfInBounds j true else cl) (Array.replicate ops.size false)
def satB (ops : Array Oper) (cl : Array Bool) (i : Nat) : Bool := (Region.ready .any ops cl).all (fun j => Nat.beq j i)
def subB (listed cl : Array Bool) : Bool := (List.range listed.size).all (fun j => !listed.getD j false || cl.getD j false)
def dueOf (ops : Array Oper) (ws : List Nat) (i : Nat) : Nat := stage ws (closI ops i)
def stageB (ops : Array Oper) (ws : List Nat) : List (Nat × Bool) → Array Bool → Bool
  | [], listed => (Region.ready .any ops listed).isEmpty
  | (i, true) :: r, listed => (Region.ready .any ops listed).contains i && Region.free .any ops listed i && !ws.contains i && Nat.beq (closI ops i).size ops.size && satB ops (closI ops i) i && subB listed (closI ops i) && stageB ops ws r (listed.setIfInBounds i true)
  | (i, false) :: r, listed => (Region.ready .any ops listed == [i]) && Nat.beq (stage ws (listed.setIfInBounds i true)) (stage ws listed + 1) && stageB ops ws r (listed.setIfInBounds i true)
def stageOk (ops : Array Oper) : Bool := Region.noSelect ops && stageB ops (wsOf (ordOf ops)) (ordOf ops) (Array.replicate ops.size false) && Nat.beq (ordOf ops).length ops.size && Nat.beq (stage (wsOf (ordOf ops)) (Array.replicate ops.size false)) 0
def Sub (listed cl : Array Bool) : Prop := ∀ j, listed.getD j false = true → cl.getD j false = true
theorem sub_of {listed cl : Array Bool} (h : subB listed cl = true) : Sub listed cl := by
  intro j hj
  unfold subB at h
  rw [List.all_eq_true] at h
  have hlt : j < listed.size := by
    rcases Nat.lt_or_ge j listed.size with h' | h'
    · exact h'
    · simp [Array.getD, Nat.not_lt.2 h'] at hj
  have := h j (List.mem_range.2 hlt)
  rw [hj] at this
  simpa using this
theorem stage_mono {listed cl : Array Bool} (h : Sub listed cl) : stage ws listed ≤ stage ws cl := by
  unfold stage
  induction ws with
  | nil => simp
  | cons j r ih =>
    simp only [List.filter_cons]
    cases hj : listed.getD j false with
    | true =>
      rw [h j hj]
      simpa using ih
    | false =>
      cases cl.getD j false with
      | true => simp only [Bool.false_eq_true, if_true, if_false, List.length_cons]; omega
      | false => simpa using ih
theorem stage_look {listed : Array Bool} {i : Nat} (h : ws.contains i = false) : stage ws (listed.setIfInBounds i true) = stage ws listed := by
  unfold stage
  congr 1
  apply List.filter_congr
  intro j hj
  exact getD_set_ne false (fun e => by
    subst e
    have : ws.contains i = true := by simpa using hj
    rw [h] at this; cases this)
theorem sub_step {listed cl : Array Bool} {i j : Nat} (hs : Sub listed cl) (hsz : cl.size = ops.size) (hsat : satB ops cl i = true) (hj : j ∈ Region.ready .any ops listed) (hji : j ≠ i) : Sub (listed.setIfInBounds j true) cl := by
  intro k hk
  by_cases hkj : j = k
  · subst hkj
    cases hc : cl.getD j false with
    | true => rfl
    | false =>
      obtain ⟨h0, o, ho, hall⟩ := mem_ready.1 hj
      have hlt : j < cl.size := by rw [hsz]; exact (Array.getElem?_eq_some_iff.1 ho).1
      have hm : j ∈ Region.ready .any ops cl := mem_ready.2 ⟨by
        unfold Array.getD at hc ⊢
        rw [dif_pos hlt] at hc ⊢
        exact hc, o, ho, fun e he hb => hs _ (hall e he hb)⟩
      unfold satB at hsat
      rw [List.all_eq_true] at hsat
      exact absurd (Nat.eq_of_beq_eq_true (hsat j hm)) hji
  · rw [getD_set_ne false hkj] at hk
    exact hs k hk
def wpStage (P : Program) (ops : Array Oper) (ws : List Nat) (C : Nat → World → Prop) (Q : Act → World → Prop) : List (Nat × Bool) → Nat → Act → World → Prop
  | [], _, a, w => Q a w
  | (i, true) :: r, s, a, w => ∃ o, ops[i]? = some o ∧ ∃ v, Looks P ops (upto C (dueOf ops ws i)) o a v ∧ wpStage P ops ws C Q r s (a.put o.dst v) w
  | (i, false) :: r, s, a, w => ∃ o, ops[i]? = some o ∧ stepH P ops o a w (fun a' w' => C (s + 1) w' ∧ wpStage P ops ws C Q r (s + 1) a' w')
theorem wpStage_mono : ∀ (l : List (Nat × Bool)) (s : Nat) {Q Q' : Act → World → Prop} (a : Act) (w : World), wpStage P ops ws C Q l s a w → (∀ a w, Q a w → Q' a w) → wpStage P ops ws C Q' l s a w
  | [], _, _, _, _, _, h, hq => hq _ _ h
  | (i, true) :: r, s, _, _, a, w, ⟨o, ho, v, hv, h⟩, hq => ⟨o, ho, v, hv, wpStage_mono r s _ _ h hq⟩
  | (i, false) :: r, s, _, _, a, w, ⟨o, ho, h⟩, hq => ⟨o, ho, stepH_mono h (fun _ _ ⟨hc, h⟩ => ⟨hc, wpStage_mono r (s + 1) _ _ h hq⟩)⟩
def anyS (P : Program) (ops : Array Oper) (ws : List Nat) (C : Nat → World → Prop) (Q : Act → World → Prop) : Nat → Array Bool → Act → World → Prop
  | 0, listed, a, w => C (stage ws listed) w ∧ Region.ready .any ops listed = [] ∧ Q a w
  | n + 1, listed, a, w => C (stage ws listed) w ∧ (Region.ready .any ops listed = [] → Q a w) ∧
    ∀ i ∈ Region.ready .any ops listed, ∀ o, ops[i]? = some o → stepH P ops o a w (anyS P ops ws C Q n (listed.setIfInBounds i true))
theorem anyS_C {Q : Act → World → Prop} {n : Nat} {listed : Array Bool} {a : Act} {w : World} (h : anyS P ops ws C Q n listed a w) : C (stage ws listed) w := by
  cases n <;> exact h.1
theorem any_of_stage {Q : Act → World → Prop} {Q' : Exit → Act → World → Prop} (hQ : ∀ a w, Q a w → Q' .normal a w) : ∀ (n : Nat) (listed : Array Bool) (a : Act) (w : World),
    anyS P ops ws C Q n listed a w → wpAny P .any ops Q' n listed a w
  | 0, _, _, _, h => ⟨h.2.1, hQ _ _ h.2.2⟩
  | n + 1, listed, a, w, h => by
    refine ⟨fun h0 => hQ _ _ (h.2.1 h0), fun i hi => ?_⟩
    obtain ⟨_, o, ho, _⟩ := mem_ready.1 hi
    have hs := h.2.2 i hi o ho
    unfold wpOp
    rw [ho]
    show if Region.wanted o (yielded ops a.tmps) = true then _ else _
    unfold stepH at hs
    cases hwant : Region.wanted o (yielded ops a.tmps) with
    | false =>
      rw [hwant] at hs
      rw [if_neg (by simp)]
      exact any_of_stage hQ n _ _ _ hs
    | true =>
      rw [hwant] at hs
      rw [if_pos rfl]
      left
      unfold Oper.wp
      revert hs
      show runsTo P (execOp a.eval o) _ w → _
      unfold runsTo
      generalize (execOp a.eval o).run P w = r
      intro hs
      cases r with
      | halt x w' => exact hs.elim
      | ok x w' =>
        cases x with
        | value u => exact any_of_stage hQ n _ _ _ hs
        | skip => exact any_of_stage hQ n _ _ _ hs
        | enter f args =>
          refine Calls.mono hs ?_
          rintro e w'' ⟨v, rfl, hc⟩
          exact any_of_stage hQ n _ _ _ hc
        | _ => exact hs.elim
theorem stage_first {Q : Act → World → Prop} {i : Nat} {oi : Oper} {v : Value} {cl : Array Bool} (hiw : ws.contains i = false) (hsz : cl.size = ops.size) (hsat : satB ops cl i = true) (hi : ops[i]? = some oi) (hsel : ∀ (j : Nat) (o : Oper) cs b, ops[j]? = some o → o.op ≠ .select cs b) :
    ∀ (n : Nat) (listed : Array Bool) (a : Act) (w : World),
      (∀ j oj, ops[j]? = some oj → j ≠ i → listed.getD j true = false → (∀ e ∈ oj.after, Region.binds .any e = true → e.on ≠ i) → oi.apart ops oj = true) →
      i ∈ Region.ready .any ops listed → Looks P ops (upto C (stage ws cl)) oi a v → Sub listed cl →
      anyS P ops ws C Q n (listed.setIfInBounds i true) (a.put oi.dst v) w → anyS P ops ws C Q (n + 1) listed a w := by
  intro n
  induction n with
  | zero =>
    intro listed a w _ hr hy hsub H
    have hw : C (stage ws listed) w := stage_look (listed := listed) hiw ▸ anyS_C H
    refine ⟨hw, fun h => absurd hr (by rw [h]; simp), fun j hj oj hoj => ?_⟩
    by_cases hji : j = i
    · subst hji
      obtain rfl : oi = oj := by rw [hi] at hoj; exact Option.some.inj hoj
      exact hy.step ⟨_, stage_mono hsub, hw⟩ H
    · have h1 := ready_mono hj hji
      rw [H.2.1] at h1
      cases h1
  | succ n ih =>
    intro listed a w hfree hr hy hsub H
    have hw : C (stage ws listed) w := stage_look (listed := listed) hiw ▸ anyS_C H
    refine ⟨hw, fun h => absurd hr (by rw [h]; simp), fun j hj oj hoj => ?_⟩
    by_cases hji : j = i
    · subst hji
      obtain rfl : oi = oj := by rw [hi] at hoj; exact Option.some.inj hoj
      exact hy.step ⟨_, stage_mono hsub, hw⟩ H
    · obtain ⟨hjun, oj', hoj', hall⟩ := mem_ready.1 hj
      obtain rfl : oj = oj' := by rw [hoj] at hoj'; exact Option.some.inj hoj'
      have hiun := (mem_ready.1 hr).1
      have hnot : ∀ e ∈ oj.after, Region.binds .any e = true → e.on ≠ i := by
        intro e he hb heq
        have h1 := hall e he hb
        rw [heq] at h1
        unfold Array.getD at h1 hiun
        split at h1
        · rename_i hlt
          rw [dif_pos hlt] at hiun
          rw [hiun] at h1
          cases h1
        · cases h1
      have hap := hfree j oj hoj hji hjun hnot
      obtain ⟨h1, h2, h3⟩ := Oper.apart_spec hap
      have hs := H.2.2 j (ready_mono hj hji) oj hoj
      have hs' : stepH P ops oj a w (fun a' w' => anyS P ops ws C Q n ((listed.setIfInBounds i true).setIfInBounds j true) (a'.put oi.dst v) w') := by
        unfold stepH at hs ⊢
        rw [wanted_put oj a oi.dst v h1, execOp_put oj (fun cs b => hsel j oj cs b hoj) a oi.dst v h1] at hs
        cases hwant : Region.wanted oj (yielded ops a.tmps) with
        | true =>
          rw [hwant] at hs
          exact runsTo_mono hs (fun u w' h => by
            show anyS P ops ws C Q n _ ((a.put oj.dst u).put oi.dst v) w'
            rw [← Act.put_comm a v u h2]; exact h)
        | false =>
          rw [hwant] at hs
          show anyS P ops ws C Q n _ ((a.put oj.dst undef).put oi.dst v) w
          rw [← Act.put_comm a v undef h2]; exact hs
      refine stepH_mono hs' (fun u w' hn => ih _ _ _ ?_ (ready_mono hr (fun e => hji e.symm)) ((Looks.put (fun cs b => hsel i oi cs b hi) h3).2 hy) (sub_step hsub hsz hsat hj hji) ?_)
      · intro k ok hk hki hun hno
        refine hfree k ok hk hki ?_ hno
        by_cases hjk : j = k
        · subst hjk; exact hjun
        · rw [getD_set_ne true hjk] at hun; exact hun
      · rw [Array.setIfInBounds_comm _ _ hji]
        exact hn
theorem stage_lex {Q : Act → World → Prop} (hs : Region.noSelect ops = true) : ∀ (l : List (Nat × Bool)) (listed : Array Bool) (a : Act) (w : World),
    stageB ops ws l listed = true → C (stage ws listed) w → wpStage P ops ws C Q l (stage ws listed) a w → anyS P ops ws C Q l.length listed a w
  | [], listed, a, w, hB, hw, h => ⟨hw, by simpa [stageB] using hB, h⟩
  | (i, true) :: r, listed, a, w, hB, hw, h => by
    simp only [stageB, Bool.and_eq_true, Bool.not_eq_true'] at hB
    obtain ⟨⟨⟨⟨⟨⟨hr, hf⟩, hiw⟩, hsz⟩, hsat⟩, hsub⟩, hB'⟩ := hB
    obtain ⟨o, ho, v, hv, hn⟩ := h
    exact stage_first hiw (Nat.eq_of_beq_eq_true hsz) hsat ho (Region.noSelect_spec hs) r.length listed a w (Region.free_spec ho hf) (by simpa using hr) hv (sub_of hsub) (stage_lex hs r _ _ w hB' (by rw [stage_look hiw]; exact hw) (by rw [stage_look hiw]; exact hn))
  | (i, false) :: r, listed, a, w, hB, hw, h => by
    simp only [stageB, Bool.and_eq_true, beq_iff_eq] at hB
    obtain ⟨⟨hr, hst⟩, hB'⟩ := hB
    have hst := Nat.eq_of_beq_eq_true hst
    obtain ⟨o, ho, hs'⟩ := h
    refine ⟨hw, fun h0 => absurd (hr.symm.trans h0) (by simp), fun j hj oj hoj => ?_⟩
    rw [hr, List.mem_singleton] at hj
    subst hj
    obtain rfl : o = oj := by rw [ho] at hoj; exact Option.some.inj hoj
    exact stepH_mono hs' (fun v w' ⟨hc, hn⟩ => stage_lex hs r _ _ w' hB' (by rw [hst]; exact hc) (by rw [hst]; exact hn))
theorem wp_region_stage {id : Nat} {Q : Exit → Act → World → Prop} {a : Act} {w : World} (hm : P.follows .mixedOrders = true) (hB : stageOk ops = true) (hC : C 0 { w with drawn := w.drawn + 1 })
    (h : wpStage P ops (wsOf (ordOf ops)) C (fun a' w' => Q .normal a' w') (ordOf ops) 0 a { w with drawn := w.drawn + 1 }) : (Code.region id ops true).wp P Q a w := by
  simp only [stageOk, Bool.and_eq_true] at hB
  obtain ⟨⟨⟨h1, h2⟩, h3⟩, h4⟩ := hB
  have h4 := Nat.eq_of_beq_eq_true h4
  refine wp_region_any hm (any_of_stage (ws := wsOf (ordOf ops)) (C := C) (Q := fun a' w' => Q .normal a' w') (fun a w h => h) _ _ _ _ ?_)
  have := stage_lex h1 _ (Array.replicate ops.size false) a { w with drawn := w.drawn + 1 } h2 (by rw [h4]; exact hC) (by rw [h4]; exact h)
  rw [Nat.eq_of_beq_eq_true h3] at this
  exact this
end
end Go.Sh
