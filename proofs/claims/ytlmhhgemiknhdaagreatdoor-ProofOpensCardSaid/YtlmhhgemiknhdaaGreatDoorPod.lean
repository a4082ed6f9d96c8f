/- Parts of the proof of the seat's statements (ClC, ShApp, ShGr, HPt, PrFill, PrCom, PrLaw, PrLaw2, PrLaw3, PrLaw4, PrLaw5, PrLaw6, PrSign, PrText, PrCode, PrRange, LsSpec, GrA, GrB, GrC, GrD, GrE, GrF, GrG): lemmas about the given translation and plain laws. No condition of their own. -/
import Derived.Test.YtlmhhgemiknhdaaGreatDoorPoc
import Derived.Deep.Upon
import Derived.Test.YtlmhhgemiknhdaaGreatDoorProg
set_option linter.all false
namespace Go.Proofs
open Go Go.Sh Go.RowKit FdSpec TkSpec CodeSpec PrSpec
set_option linter.unusedSimpArgs false
set_option linter.unusedVariables false
set_option maxRecDepth 10000
section
variable {K : Value → World → Prop} {w w0 : World} {L : List (Addr × Value)}
def IeJ (p : Eqn → Bool) (l : List Eqn) (R : Bool) (w0 : World) (vs : List Value) (w' : World) : Prop := Below w0.heap.size w0 w' ∧ ∃ (v u : Value) (i : Nat), vs = [v, u, .int .i64 (i : Int)] ∧ i ≤ l.length ∧ (l.drop i).any p = R
theorem IndexEq_ok {v F : Value} {l : List Eqn} (p : Eqn → Bool) (hl : SRow 2 EqnAt w v l)
    (hF : ∀ (w' : World) (x : Eqn) (xv : Value) (K' : Value → World → Prop) (T : TypeId), Below w.heap.size w w' → x ∈ l → SRow 2 TrmAt w' xv x.terms → I64 x.target → (∀ w'', Below w'.heap.size w' w'' → K' (.bool (p x)) w'') → oM Tryz.prog (.call { callee := .value (.tmp 0), args := #[.tmp 1], argTypes := #[144] }) T [F, eqnV x xv] K' w')
    (k : ∀ w' (r : Int), Below w.heap.size w w' → decide (0 ≤ r) = l.any p → K (.int .i64 r) w') : callM Tryz.prog 207 #[v, F] K w := by
  apply sh_207_ok
  unfold sh_207
  obtain ⟨ad, c, rfl⟩ := hl.isSlice
  have hll := hl.len
  repeat (any_goals ((with_reducible refine idO ?_); (with_reducible refine oM_gen fun Kv hK=>?_); simp [go_sem]; refine hK _ _ ?_; clear hK; clear Kv))
  refine ⟨IeJ p l (l.any p) w, vsMu l.length, ⟨Below.refl _ _, _, _, 0, rfl, by omega, rfl⟩, ?_⟩
  generalize l.any p = R at *
  rintro _ _ w1 ⟨h1, u1, u2, i, rfl, hi, ha⟩
  by_cases hin : i = l.length
  · rw [List.drop_of_length_le (by omega), List.any_nil] at ha
    repeat (any_goals (first
    | (with_reducible ((refine idCond ?_); refine yO ?_))
    | ((with_reducible refine idO ?_); (with_reducible refine oM_gen fun Kv hK=>?_); simp [go_sem]; refine hK _ _ ?_; clear hK; clear Kv)))
    exact k _ _ h1 (by rw [← ha]; rfl)
  · rw [List.drop_eq_getElem_cons (by omega), List.any_cons] at ha
    obtain ⟨b1, o1, rfl, hb1, tv, c0, c1, htr, hti⟩ := (hl.next eqn_stay h1).at (i := i) (by omega)
    have hm := List.getElem_mem (show i < l.length by omega)
    generalize l[i] = e at *
    obtain ⟨tad, tc, rfl⟩ := htr.isSlice
    repeat (any_goals (first
    | (with_reducible ((refine idCond ?_); refine yN ?_))
    | ((with_reducible refine idO ?_); (with_reducible refine oM_gen fun Kv hK=>?_); simp [go_sem, c0, c1]; (first|refine hK _ _ ?_|refine And.intro (by omega) (hK _ _ ?_)); clear hK; clear Kv)))
    refine hF w1 e _ _ _ h1 hm htr hti (fun w2 h2 => ?_)
    cases hp : p e with
    | true =>
      rw [hp, Bool.true_or] at ha
      repeat (any_goals (with_reducible ((refine idCond ?_); refine yL ?_)))
      exact k _ _ (h1.on h2) (by rw [← ha]; simp)
    | false =>
      rw [hp, Bool.false_or] at ha
      repeat (any_goals (first
      | (with_reducible ((refine idCond ?_); refine yM ?_))
      | ((with_reducible refine idO ?_); (with_reducible refine oM_gen fun Kv hK=>?_); simp [go_sem]; (try simp (disch := omega) only [wrapI64, wrapU8, wrapU32, wrapU64]); refine hK _ _ ?_; clear hK; clear Kv)))
      refine ⟨⟨h1.on h2, _, _, i + 1, rfl, by omega, ha⟩, ?_⟩
      simp only [vsMu_eq]; omega
theorem ContainsEq_ok {v F : Value} {l : List Eqn} (p : Eqn → Bool) (hl : SRow 2 EqnAt w v l)
    (hF : ∀ (w' : World) (x : Eqn) (xv : Value) (K' : Value → World → Prop) (T : TypeId), Below w.heap.size w w' → x ∈ l → SRow 2 TrmAt w' xv x.terms → I64 x.target → (∀ w'', Below w'.heap.size w' w'' → K' (.bool (p x)) w'') → oM Tryz.prog (.call { callee := .value (.tmp 0), args := #[.tmp 1], argTypes := #[144] }) T [F, eqnV x xv] K' w')
    (k : ∀ w', Below w.heap.size w w' → K (.bool (l.any p)) w') : callM Tryz.prog 179 #[v, F] K w := by
  apply sh_179_ok
  unfold sh_179
  refine IndexEq_ok p hl hF (fun w' r hb hr => ?_)
  repeat (any_goals ((with_reducible refine idO ?_); (with_reducible refine oM_gen fun Kv hK=>?_); simp [go_sem]; refine hK _ _ ?_; clear hK; clear Kv))
  rw [hr]
  exact k _ hb
theorem holds_ok (s : Stp) (c : Clm) (l : List Int) {v cv lv : Value} (hs : SetR w s v) (hc : ClmR w c cv) (hl : Ints w lv l) (hfit : ∀ e ∈ c.eqs, e.terms.length < 1000 ∧ ∀ t ∈ e.terms, 0 ≤ t.var ∧ t.var < c.vars)
    (k : ∀ w', Below w.heap.size w w' → K (.bool (holdsM s c l)) w') : callM Tryz.prog 122 #[stpV s v, clmV c cv, lv] K w := by
  apply sh_122_ok
  unfold sh_122
  have hs' := hs
  have hc' := hc
  have hl' := hl
  obtain ⟨ad, ca, rfl⟩ := hs.ints.isSlice
  obtain ⟨ead, ec, rfl⟩ := hc.eqs.isSlice
  obtain ⟨lad, lc, rfl⟩ := hl.isSlice
  refine box_kn (cs := stpC s (.slice ad s.bases.length ca)) rfl (.start w) fun b1 W1 hk hb1 hbb => ?_
  refine box_kn (cs := clmC c (.slice ead c.eqs.length ec)) rfl hk fun b2 W2 hk hb2 hbb => ?_
  refine box_kn (cs := [.slice lad l.length lc]) rfl hk fun b3 W3 hk hb3 hbb => ?_
  clear hb1 hb2 hb3 hbb
  repeat (any_goals ((with_reducible refine idO ?_); (with_reducible refine oM_gen fun Kv hK=>?_); simp [go_sem, hk.cells]; refine hK _ _ ?_; clear hK; clear Kv))
  refine exponents_ok s c.vars (hs'.next hk.below) (hl'.next hk.below) (fun w4 h4 => ?_)
  have hk := hk.next h4
  clear h4
  have eH : holdsM s c l = (exponentsM s l c.vars && !(c.eqs.any fun e => !decide (leftM s e l = e.target))) := rfl
  cases hx : exponentsM s l c.vars with
  | false =>
    rw [hx, Bool.false_and] at eH
    rw [eH] at k
    repeat (any_goals (first
    | (with_reducible ((refine idCond ?_); refine yL ?_))
    | ((with_reducible refine idO ?_); (with_reducible refine oM_gen fun Kv hK=>?_); simp [go_sem, hk.cells]; refine hK _ _ ?_; clear hK; clear Kv)))
    exact k _ hk.below
  | true =>
  rw [hx, Bool.true_and] at eH
  rw [eH] at k
  have hln : (l.length : Int) = c.vars := by
    unfold exponentsM at hx
    simp only [Bool.and_eq_true, decide_eq_true_eq] at hx
    exact hx.1
  repeat (any_goals (first
  | (with_reducible ((refine idCond ?_); refine yM ?_))
  | ((with_reducible refine idO ?_); (with_reducible refine oM_gen fun Kv hK=>?_); simp [go_sem, hk.cells]; refine hK _ _ ?_; clear hK; clear Kv)))
  refine ContainsEq_ok (fun e => !decide (leftM s e l = e.target)) (hc'.eqs.next eqn_stay hk.below) ?_ ?_
  · intro w' x xv K' T hb hx htr hti h'
    refine oM_callv1 (by kernel_rfl) ?_
    have hk := hk.next hb
    show callM Tryz.prog 180 #[eqnV x xv, .pointer (some ⟨b1, 0, none⟩), .pointer (some ⟨b3, 0, none⟩)] K' w'
    apply sh_180_ok
    unfold sh_180
    obtain ⟨xad, xc, rfl⟩ := htr.isSlice
    refine box_kn (cs := eqnC x (.slice xad x.terms.length xc)) rfl (.start w') fun b5 W5 hk5 hb5 hbb => ?_
    have hk := hk.next hb5
    have htr := htr.next trm_stay hb5
    have hk6 := hk5.drew
    have hk := hk.drew
    have htr := htr.next trm_stay (.drawn (B := W5.heap.size))
    refine ⟨Nx { W5 with drawn := W5.drawn + 1 }, Below.refl _ _, rfl, ?_⟩
    generalize ({ W5 with drawn := W5.drawn + 1 } : World) = W9 at hk hk6 htr ⊢
    repeat (any_goals ((with_reducible refine idOH ?_); (with_reducible refine oH_of ⟨_, rfl⟩ (fun W0 hW0 => by (refine oM_gen (fun Kv hK => ?_)); simp [go_sem, (hk.next hW0).cells, (hk6.next hW0).cells]; (first | exact hK _ _ ⟨rfl, rfl⟩ | exact ⟨by omega, hK _ _ ⟨rfl, rfl⟩⟩)) ?_)))
    refine ⟨Nx, ?_⟩
    apply monoE
    · intro w1 h1
      exact left_ok s x l (hs'.next (hk.next h1).below) (htr.next trm_stay h1) hti (hl'.next (hk.next h1).below) (hfit x hx).1 (fun t ht => by have := (hfit x hx).2 t ht; omega) (fun w2 h2 => ⟨h1.on h2, h2, rfl⟩)
    (intro w9 h9; repeat (intro v9 e9; try (obtain rfl := e9)))
    have hk6 := hk6.next h9
    repeat (any_goals ((with_reducible refine idO ?_); (with_reducible refine oM_gen fun Kv hK=>?_); simp [go_sem, hk6.cells]; refine hK _ _ ?_; clear hK; clear Kv))
    exact h' _ hk6.below
  · intro w3 h3
    have hk := hk.next h3
    generalize (c.eqs.any fun e => !decide (leftM s e l = e.target)) = q at *
    repeat (any_goals ((with_reducible refine idO ?_); (with_reducible refine oM_gen fun Kv hK=>?_); simp [go_sem]; refine hK _ _ ?_; clear hK; clear Kv))
    exact k _ hk.below
theorem claim_fit {s : Stp} {c : Clm} (h : claimM s c = true) : ∀ e ∈ c.eqs, e.terms.length < 1000 ∧ ∀ t ∈ e.terms, 0 ≤ t.var ∧ t.var < c.vars := by
  unfold claimM at h
  simp only [Bool.and_eq_true] at h
  intro e he
  have := List.all_eq_true.1 h.2 e he
  unfold eqnFine at this
  simp only [Bool.and_eq_true, decide_eq_true_eq] at this
  refine ⟨by omega, fun t ht => ?_⟩
  have := List.all_eq_true.1 this.2 t ht
  unfold trmFine at this
  simp only [Bool.and_eq_true, decide_eq_true_eq] at this
  exact this.1
theorem Holds_ok (s : Stp) (c : Clm) (l : List Int) {v cv lv : Value} (hs : SetR w s v) (hc : ClmR w c cv) (hl : Ints w lv l)
    (k : ∀ w', Below w.heap.size w w' → K (.bool (HoldsM s c l)) w') : callM Tryz.prog 41 #[stpV s v, clmV c cv, lv] K w := by
  apply sh_41_ok
  unfold sh_41
  have hs' := hs
  have hc' := hc
  obtain ⟨ad, ca, rfl⟩ := hs.ints.isSlice
  obtain ⟨ead, ec, rfl⟩ := hc.eqs.isSlice
  refine box_kn (cs := stpC s (.slice ad s.bases.length ca)) rfl (.start w) fun b1 W1 hk hb1 hbb => ?_
  refine box_kn (cs := clmC c (.slice ead c.eqs.length ec)) rfl hk fun b2 W2 hk hb2 hbb => ?_
  clear hb1 hb2 hbb
  have eH : HoldsM s c l = (validS s && claimM s c && holdsM s c l) := rfl
  repeat (any_goals ((with_reducible refine idO ?_); (with_reducible refine oM_gen fun Kv hK=>?_); simp [go_sem, hk.cells]; refine hK _ _ ?_; clear hK; clear Kv))
  refine ValidSetup_ok s (hs'.next hk.below) (fun w4 h4 => ?_)
  have hk := hk.next h4
  clear h4
  cases hv : validS s with
  | false =>
    rw [hv, Bool.false_and, Bool.false_and] at eH
    rw [eH] at k
    repeat (any_goals (with_reducible first|((refine idGd ?_); refine zB ?_)|((refine idPick ?_); refine yC ?_)))
    exact k _ hk.below
  | true =>
  rw [hv, Bool.true_and] at eH
  repeat (any_goals (first
  | (with_reducible ((refine idGd ?_); refine zA ?_))
  | ((with_reducible refine idO ?_); (with_reducible refine oM_gen fun Kv hK=>?_); simp [go_sem, hk.cells]; refine hK _ _ ?_; clear hK; clear Kv)))
  refine validClaim_ok s c (hs'.next hk.below) (hc'.next hk.below) (fun w5 h5 => ?_)
  have hk := hk.next h5
  clear h5
  cases hcl : claimM s c with
  | false =>
    rw [hcl, Bool.false_and] at eH
    rw [eH] at k
    repeat (any_goals (with_reducible first|((refine idGd ?_); refine zB ?_)|((refine idPick ?_); first|refine yB ?_|refine yC ?_)))
    exact k _ hk.below
  | true =>
  rw [hcl, Bool.true_and] at eH
  rw [eH] at k
  repeat (any_goals (first
  | (with_reducible first|refine pureM_in ?_|((refine idGd ?_); refine zA ?_)|((refine idPick ?_); refine yB ?_))
  | ((with_reducible refine idO ?_); (with_reducible refine oM_gen fun Kv hK=>?_); simp [go_sem, hk.cells]; refine hK _ _ ?_; clear hK; clear Kv)))
  refine holds_ok s c l (hs'.next hk.below) (hc'.next hk.below) (hl.next hk.below) (claim_fit hcl) (fun w6 h6 => ?_)
  have hk := hk.next h6
  repeat (any_goals (with_reducible ((refine idPick ?_); refine yB ?_)))
  exact k _ hk.below
end
end Go.Proofs
namespace Go.Sh
open Go Go.RowKit
section
variable {P : Program} {w w' : World} {K : Value → World → Prop}
theorem owns_up {B C : Nat} {e : TypeId} {sz : Nat} {v : Value} {n : Nat} {xs : List Value} (h : w.ownsRow B e sz v n xs) (hv : ∀ i, v.ownBlock = some i → C ≤ i) : w.ownsRow C e sz v n xs :=
  ⟨h.1, h.2.imp id (fun ⟨g, cap, cur, a, b, r⟩ => ⟨g, cap, cur, a, hv g (by rw [a]; rfl), r⟩)⟩
end
end Go.Sh
namespace Go.Sh
open Go Go.RowKit
section
variable {w w' : World} {D E : Nat → Prop} {p q : World → Prop}
def FP (D : Nat → Prop) (w : World) (p : World → Prop) : Prop := ∀ w' : World, w'.os = w.os → w'.tape = w.tape → w'.output = w.output → w.heap.size ≤ w'.heap.size → (∀ i, D i → w'.heap[i]? = w.heap[i]?) → p w'
theorem FP.here (h : FP D w p) : p w := h w rfl rfl rfl (Nat.le_refl _) (fun _ _ => rfl)
theorem FP.mono (h : FP D w p) (hd : ∀ i, D i → E i) : FP E w p := fun w' a b c d e => h w' a b c d (fun i hi => e i (hd i hi))
theorem FP.imp (h : FP D w p) (hp : ∀ w', p w' → q w') : FP D w q := fun w' a b c d e => hp w' (h w' a b c d e)
theorem FP.and (h : FP D w p) (k : FP E w q) : FP (fun i => D i ∨ E i) w (fun w => p w ∧ q w) := fun w' a b c d e => ⟨h w' a b c d (fun i hi => e i (.inl hi)), k w' a b c d (fun i hi => e i (.inr hi))⟩
theorem FP.both (h : FP D w p) (k : FP D w q) : FP D w (fun w => p w ∧ q w) := fun w' a b c d e => ⟨h w' a b c d e, k w' a b c d e⟩
theorem FP.all {α : Type} {P : α → World → Prop} (h : ∀ x, FP D w (P x)) : FP D w (fun w => ∀ x, P x w) := fun w' a b c d e x => h x w' a b c d e
theorem FP.pure {p : Prop} (h : p) : FP D w (fun _ => p) := fun _ _ _ _ _ _ => h
theorem FP.fr {S : Nat → Prop} (h : FP D w p) (hf : Fr S w w') (hD : ∀ i, D i → i < w.heap.size ∧ ¬ S i) : FP D w' p := fun w2 a b c d e =>
  h w2 (a.trans hf.os) (b.trans hf.tape) (c.trans hf.output) (Nat.le_trans hf.size d) (fun i hi => (e i hi).trans (hf.block i (hD i hi).1 (hD i hi).2))
theorem FP.by {b : Option Nat} (h : FP D w p) (hf : w.grownBy w' b) (hD : ∀ i, D i → i < w.heap.size ∧ b ≠ some i) : FP D w' p := fun w2 a b c d e =>
  h w2 (a.trans hf.os) (b.trans hf.tape) (c.trans hf.output) (Nat.le_trans hf.size d) (fun i hi => (e i hi).trans (hf.block i (hD i hi).1 (fun x => (hD i hi).2 (by first | exact x | exact x.symm))))
theorem FP.next (h : FP D w p) (hb : Below w.heap.size w w') (hD : ∀ i, D i → i < w.heap.size) : FP D w' p := fun w2 a b c d e =>
  h w2 (a.trans hb.os) (b.trans hb.tape) (c.trans hb.output) (Nat.le_trans hb.size d) (fun i hi => (e i hi).trans (hb.block i (hD i hi)))
theorem Ints.fp {v : Value} {l : List Int} (h : Ints w v l) : FP (fun i => Value.inBlock v = some i ∧ i < w.heap.size) w (fun w => Ints w v l) := fun w' _ _ _ d e =>
  ⟨h.row.keep d (fun i hi hlt => e i ⟨hi, hlt⟩), h.rng, h.len⟩
end
abbrev Cl (n : Nat) := {c : List Value // c.length = n}
def Cl.cs {n : Nat} (c : Cl n) : List Value := c.1
def AtOf {α : Type} (n : Nat) (V : World → List Value → α → Prop) (w : World) (b p : Nat) (x : α) : Prop := ∃ c : List Value, c.length = n ∧ (∀ (j : Nat) (u : Value), c[j]? = some u → w.cell? ⟨b, p + j, none⟩ = some u) ∧ V w c x
def VStay {α : Type} (V : World → List Value → α → Prop) : Prop := ∀ (w w' : World) (c : List Value) (x : α), V w c x → Below w.heap.size w w' → V w' c x
def VOne {α : Type} (R : World → Value → α → Prop) (w : World) (c : List Value) (x : α) : Prop := ∃ v, c = [v] ∧ R w v x
def Cols {α : Type} (n : Nat) (V : World → List Value → α → Prop) (w : World) (cs : List (Cl n)) (l : List α) : Prop := cs.length = l.length ∧ ∀ (i : Nat) (c : Cl n) (x : α), cs[i]? = some c → l[i]? = some x → V w c.1 x
structure GRow {α : Type} (n : Nat) (e : TypeId) (V : World → List Value → α → Prop) (B : Nat) (D : Nat → Prop) (w : World) (v : Value) (l : List α) : Prop where
  ex : ∃ cs : List (Cl n), w.ownsRow B e n v l.length (flat Cl.cs cs) ∧ FP D w (fun w => Cols n V w cs l)
section
variable {α : Type} {n : Nat} {e : TypeId} {V : World → List Value → α → Prop} {B : Nat} {D E : Nat → Prop} {w w' : World} {v : Value} {l : List α}
theorem GRow.nil : GRow n e V B D w (.slice none 0 0) [] := ⟨[], ⟨by simp [flat], .inl ⟨rfl, rfl⟩⟩, fun _ _ _ _ _ _ => ⟨rfl, fun _ _ _ h => by simp at h⟩⟩
theorem GRow.mono (h : GRow n e V B D w v l) (hd : ∀ i, D i → E i) : GRow n e V B E w v l := by
  obtain ⟨cs, h1, h2⟩ := h.ex
  exact ⟨cs, h1, h2.mono hd⟩
theorem GRow.own (h : GRow n e V B D w v l) {i : Nat} (hi : v.ownBlock = some i) : i < w.heap.size ∧ B ≤ i := by
  obtain ⟨cs, h1, _⟩ := h.ex
  exact ⟨(owns_own h1 hi).1, (owns_own h1 hi).2.1⟩
theorem GRow.isSlice (h : GRow n e V B D w v l) : ∃ ad c, v = .slice ad l.length c := by
  obtain ⟨cs, h1, _⟩ := h.ex
  exact owns_len h1
theorem GRow.keep (h : GRow n e V B D w v l) {S : Nat → Prop} (hf : Fr S w w') (hD : ∀ i, D i → i < w.heap.size ∧ ¬ S i) (hv : ∀ i, v.ownBlock = some i → ¬ S i) : GRow n e V B D w' v l := by
  obtain ⟨cs, h1, h2⟩ := h.ex
  exact ⟨cs, owns_keep h1 (fun i hi => hf.block i (owns_own h1 hi).1 (hv i hi)), h2.fr hf hD⟩
theorem Fr.of_below' {S : Nat → Prop} (h : Below w.heap.size w w') : Fr S w w' := ⟨h.os, h.tape, h.output, h.size, fun i hi _ => h.block i hi⟩
theorem Fr.of_by (h : w.grownBy w' (some B)) : Fr (fun i => i = B) w w' := ⟨h.os, h.tape, h.output, h.size, fun i hi hn => h.block i hi (fun x => hn (by first | exact Option.some.inj x | exact (Option.some.inj x).symm))⟩
theorem Fr.of_by' {b : Option Nat} (h : w.grownBy w' b) : Fr (fun i => b = some i) w w' := ⟨h.os, h.tape, h.output, h.size, fun i hi hn => h.block i hi (fun x => hn (by first | exact x | exact x.symm))⟩
theorem GRow.next (h : GRow n e V B D w v l) (hb : Below w.heap.size w w') (hD : ∀ i, D i → i < w.heap.size) : GRow n e V B D w' v l :=
  h.keep (S := fun _ => False) (Fr.of_below' hb) (fun i hi => ⟨hD i hi, id⟩) (fun _ _ => id)
theorem grow_append {P : Program} {K : Value → World → Prop} (t T : TypeId) (i : TypeInfo) (z : Value) (bytes : Nat) (ht : P.underlying t = some (.slice e)) (hi : P.info? e = some i) (hz : i.zero = some z)
    (hsize : i.size = n) (hby : i.bytes = bytes) (hzs : z.cells.size = n) (hn : 0 < n) (hbb : bytes ≤ 64)
    (h : GRow n e V B D w v l) (hB : B ≤ w.heap.size) {b o c : Nat} {x : α} {xs : List Value} (hxl : xs.length = n) (hcell : ∀ (j : Nat) (u : Value), xs[j]? = some u → w.cell? ⟨b, o + j, none⟩ = some u) (h1 : ∀ u ∈ xs, u.oneCell' = true)
    (hx : FP D w (fun w => V w xs x)) (hD : ∀ i, D i → i < w.heap.size ∧ v.ownBlock ≠ some i) (hl : l.length < 1099511627776)
    (k : ∀ v' w', GRow n e V B D w' v' (l ++ [x]) → w.grownBy w' v.ownBlock → (∀ i, v'.ownBlock = some i → v.ownBlock = some i ∨ w.heap.size ≤ i) → (∀ i, D i → i < w'.heap.size ∧ v'.ownBlock ≠ some i) → K v' w') :
    oM P (.call { callee := .builtin .append, args := #[.tmp 0, .tmp 1], argTypes := #[t, t] }) T [v, .slice (some ⟨b, o, none⟩) 1 c] K w := by
  obtain ⟨cs, ho, hf⟩ := h.ex
  refine append_at t T e i z n bytes ht hi hz hsize hby hzs hn (owns_base ho (Nat.zero_le _)) xs (by omega) (by simp) ?_ h1 (by simp only [maxLen]; omega) (by have : (l.length + 1) * bytes ≤ 1099511627776 * 64 := Nat.mul_le_mul (by omega) hbb; omega) ?_
  · rintro a ha j u hj
    cases ha
    rw [add_none]
    exact hcell j u hj
  · intro v' w' ho' hg hv
    have hf' := hf.by hg hD
    refine k v' w' ⟨cs ++ [⟨xs, hxl⟩], ?_, ?_⟩ hg hv ?_
    · have e2 : flat Cl.cs (cs ++ [(⟨xs, hxl⟩ : Cl n)]) = flat Cl.cs cs ++ xs := by rw [flat_snoc]; rfl
      have e1 : (l ++ [x]).length = l.length + 1 := by simp
      rw [e1, e2]
      exact owns_up ho' (fun i hi => (hv i hi).elim (fun h => (owns_own ho h).2.1) (fun h => Nat.le_trans hB h))
    · have hx' := hx.by hg hD
      refine (hf'.both hx').imp ?_
      rintro w2 ⟨⟨hc1, hc2⟩, hx2⟩
      refine ⟨by simp [hc1], fun i c y hi hy => ?_⟩
      by_cases hlt : i < cs.length
      · rw [List.getElem?_append_left hlt] at hi
        rw [List.getElem?_append_left (by omega)] at hy
        exact hc2 i c y hi hy
      · rw [List.getElem?_append_right (by omega)] at hi
        rw [List.getElem?_append_right (by omega)] at hy
        have : i - cs.length = 0 := by
          have := (List.getElem?_eq_some_iff.1 hi).1
          simp at this
          omega
        rw [this] at hi
        rw [show i - l.length = 0 by omega] at hy
        simp at hi hy
        subst hi; subst hy
        exact hx2
    · intro i hi
      obtain ⟨h2, h3⟩ := hD i hi
      refine ⟨Nat.lt_of_lt_of_le h2 hg.size, fun e => ?_⟩
      rcases hv i e with h4 | h4
      · exact h3 h4
      · omega
end
end Go.Sh
namespace Go.Sh
open Go Go.RowKit
def Fresh (W w : World) (p : World → Prop) : Prop := FP (fun i => W.heap.size ≤ i ∧ i < w.heap.size) w p
section
variable {W W' w w' : World} {p q : World → Prop}
theorem Fresh.next (h : Fresh W w p) (hb : Below w.heap.size w w') : Fresh W w' p := (FP.next h hb (fun i hi => hi.2)).mono (fun i hi => ⟨hi.1, Nat.lt_of_lt_of_le hi.2 hb.size⟩)
theorem Fresh.up (h : Fresh W w p) (hs : W'.heap.size ≤ W.heap.size) : Fresh W' w p := FP.mono h (fun i hi => ⟨Nat.le_trans hs hi.1, hi.2⟩)
theorem Fresh.here (h : Fresh W w p) : p w := FP.here h
theorem Fresh.imp (h : Fresh W w p) (hp : ∀ w', p w' → q w') : Fresh W w q := FP.imp h hp
theorem Fresh.both (h : Fresh W w p) (k : Fresh W w q) : Fresh W w (fun w => p w ∧ q w) := FP.both h k
theorem Fresh.pure {p : Prop} (h : p) : Fresh W w (fun _ => p) := FP.pure h
theorem Holds.fp {g : Nat} {T : TypeId} {vs : List Value} (h : Holds w g T vs) : FP (fun i => i = g) w (fun w => Holds w g T vs) := fun w' _ _ _ _ e => (e g rfl).trans h
theorem Holds.fresh {g : Nat} {T : TypeId} {vs : List Value} (h : Holds w g T vs) (hg : W.heap.size ≤ g) : Fresh W w (fun w => Holds w g T vs) := h.fp.mono (fun i hi => by subst hi; exact ⟨hg, h.lt⟩)
theorem Ints.fresh {v : Value} {l : List Int} (h : Ints w v l) (hg : ∀ i, Value.inBlock v = some i → W.heap.size ≤ i) : Fresh W w (fun w => Ints w v l) := h.fp.mono (fun i hi => ⟨hg i hi.1, hi.2⟩)
theorem lit_run {K : Value → World → Prop} {r : Result Value} {e : TypeId} {n : Nat} {xs : List Value} (hr : r = .ok (.slice (some ⟨w.heap.size, 0, none⟩) n n) (w.alloc (.cells xs.toArray e)))
    (k : ∀ g W, Below w.heap.size w W → w.heap.size ≤ g → Holds W g e xs → K (.slice (some ⟨g, 0, none⟩) n n) W) : rM r K := by
  rw [hr]
  refine k _ _ ((Below.refl _ w).alloc (Nat.le_refl _) _) (Nat.le_refl _) ?_
  have := heap_alloc_new w (.cells xs.toArray e)
  exact this
end
end Go.Sh
set_option linter.unusedVariables false
set_option maxRecDepth 100000
namespace Go.Proofs
open Go.Sh
def sh_44 (a0 : Value) (a1 : Value) (a2 : Value) (K : Value → World → Prop) (w : World) : Prop :=
 oM Tryz.prog (.box 26 (.tmp 0)) 0 [a0] (fun v3_1 w =>
 oM Tryz.prog (.load 26 (.tmp 0)) 26 [v3_1] (fun v9_2 w =>
 callM Tryz.prog 21 #[v9_2] (fun v10_3 w =>
 oM Tryz.prog (.unOp .not 4 (.tmp 0)) 4 [v10_3] (fun v11_4 w =>
 condM v11_4
 (K (.int .i64 0) w)
 (oM Tryz.prog (.fieldAddr 26 (.tmp 0) 0) 0 [v3_1] (fun v13_5 w =>
 oM Tryz.prog (.load 23 (.tmp 0)) 23 [v13_5] (fun v14_6 w =>
 oM Tryz.prog (.fieldAddr 26 (.tmp 0) 0) 0 [v3_1] (fun v15_7 w =>
 oM Tryz.prog (.fieldAddr 23 (.tmp 0) 2) 0 [v15_7] (fun v16_8 w =>
 oM Tryz.prog (.load 3 (.tmp 0)) 3 [v16_8] (fun v17_9 w =>
 oM Tryz.prog (.fieldAddr 26 (.tmp 0) 2) 0 [v3_1] (fun v18_10 w =>
 oM Tryz.prog (.load 3 (.tmp 0)) 3 [v18_10] (fun v19_11 w =>
 oM Tryz.prog (.buildSlice 24 2 #[(0, (.tmp 0)), (1, (.tmp 1))]) 24 [v17_9, v19_11] (fun v20_12 w =>
 oM Tryz.prog (.buildSlice 24 2 #[(0, (.tmp 0)), (1, (.tmp 1))]) 24 [a1, a2] (fun v23_13 w =>
 callM Tryz.prog 126 #[v14_6, v20_12, v23_13] (fun v24_14 w =>
 oM Tryz.prog (.extract (.tmp 0) 0) 3 [v24_14] (fun v25_15 w =>
 oM Tryz.prog (.extract (.tmp 0) 1) 4 [v24_14] (fun v26_16 w =>
 K v25_15 w) w) w) w) w) w) w) w) w) w) w) w) w)) w) w) w) w
theorem sh_44_eq (a0 : Value) (a1 : Value) (a2 : Value) (K : Value → World → Prop) (w : World) : sh_44 a0 a1 a2 K w = code Tryz.prog (fun _ => 0) 28 (Tryz.f44.body.getD .skip) (slotsAt [a0, a1, a2]) (retK Tryz.prog [.tmp 6] K) w := by kernel_rfl
theorem sh_44_ok {a0 a1 a2 : Value} {K : Value → World → Prop} {w : World} (h : sh_44 a0 a1 a2 K w) : callM Tryz.prog 44 #[a0, a1, a2] K w :=
  calls_of_code (fun _ => 0) (fn := Tryz.f44) (rs := [.tmp 6]) Tryz.func44 rfl rfl (by kernel_rfl) (Nat.le_of_ble_eq_true rfl) ((sh_44_eq a0 a1 a2 K w).mp h)
def sh_74 (a0 : Value) (a1 : Value) (K : Value → World → Prop) (w : World) : Prop :=
 oM Tryz.prog (.box 26 (.tmp 0)) 0 [a0] (fun v2_1 w =>
 oM Tryz.prog (.load 26 (.tmp 0)) 26 [v2_1] (fun v9_2 w =>
 callM Tryz.prog 21 #[v9_2] (fun v10_3 w =>
 oM Tryz.prog (.unOp .not 4 (.tmp 0)) 4 [v10_3] (fun v11_4 w =>
 gdM (gd v11_4 false) (pureM a1) (fun v13_5 w =>
 gdM (gd v11_4 false) (oM Tryz.prog (.call (Go.Call.mk (.builtin .len) #[(.tmp 0)] #[24])) 3 [v13_5]) (fun v14_6 w =>
 gdM (gd v11_4 false) (oM Tryz.prog (.binOp .lss 3 (.tmp 0) (.tmp 1) 3) 4 [v14_6, (.int .i64 1)]) (fun v15_7 w =>
 oM Tryz.prog (.pick (.tmp 0) (.tmp 1) (.tmp 2)) 4 [v11_4, (.bool true), v15_7] (fun v16_8 w =>
 gdM (gd v16_8 false) (pureM a1) (fun v18_9 w =>
 gdM (gd v16_8 false) (oM Tryz.prog (.call (Go.Call.mk (.builtin .len) #[(.tmp 0)] #[24])) 3 [v18_9]) (fun v19_10 w =>
 gdM (gd v16_8 false) (oM Tryz.prog (.binOp .gtr 3 (.tmp 0) (.tmp 1) 3) 4 [v19_10, (.int .i64 60)]) (fun v20_11 w =>
 oM Tryz.prog (.pick (.tmp 0) (.tmp 1) (.tmp 2)) 4 [v16_8, (.bool true), v20_11] (fun v21_12 w =>
 condM v21_12
 (K (.tuple #[(.int .i64 0), (.bool false)]) w)
 (oM Tryz.prog (.call (Go.Call.mk (.builtin .len) #[(.tmp 0)] #[24])) 3 [a1] (fun v23_13 w =>
 loopM [undef, undef, (.int .i64 0), (.bool false), (.slice none 0 0), (.int .i64 0)] w (fun J_14 m_15 l_16 u_l_16 w0_l_16 => (fun w => (
 oM Tryz.prog (.binOp .lss 3 (.tmp 0) (.tmp 1) 3) 0 [(l_16.getD 5 undef), v23_13] (fun v25_17 w =>
 condM v25_17
 (oM Tryz.prog (.indexAddr 24 (.tmp 0) (.tmp 1)) 0 [a1, (l_16.getD 5 undef)] (fun v27_18 w =>
 oM Tryz.prog (.load 3 (.tmp 0)) 3 [v27_18] (fun v28_19 w =>
 oM Tryz.prog (.fieldAddr 26 (.tmp 0) 0) 0 [v2_1] (fun v29_20 w =>
 oM Tryz.prog (.load 23 (.tmp 0)) 23 [v29_20] (fun v30_21 w =>
 callM Tryz.prog 109 #[v30_21, v28_19] (fun v32_22 w =>
 oM Tryz.prog (.unOp .not 4 (.tmp 0)) 4 [v32_22] (fun v33_23 w =>
 condM v33_23
 (K (.tuple #[(.int .i64 0), (.bool false)]) w)
 (oM Tryz.prog (.binOp .shl 3 (.tmp 0) (.tmp 1) 3) 3 [(.int .i64 1), (l_16.getD 5 undef)] (fun v36_24 w =>
 oM Tryz.prog (.buildSlice 24 1 #[(0, (.tmp 0))]) 24 [v36_24] (fun v37_25 w =>
 oM Tryz.prog (.call (Go.Call.mk (.builtin .append) #[(.tmp 0), (.tmp 1)] #[24, 24])) 24 [(l_16.getD 4 undef), v37_25] (fun v38_26 w =>
 oM Tryz.prog (.binOp .add 3 (.tmp 0) (.tmp 1) 3) 3 [(l_16.getD 5 undef), (.int .i64 1)] (fun v39_27 w =>
 J_14 [(l_16.getD 5 undef), v28_19, (l_16.getD 2 undef), (l_16.getD 3 undef), v38_26, v39_27] w ∧ m_15 [(l_16.getD 5 undef), v28_19, (l_16.getD 2 undef), (l_16.getD 3 undef), v38_26, v39_27] w < m_15 l_16 w0_l_16) w) w) w) w)) w) w) w) w) w) w)
 (oM Tryz.prog (.fieldAddr 26 (.tmp 0) 0) 0 [v2_1] (fun v40_28 w =>
 oM Tryz.prog (.load 23 (.tmp 0)) 23 [v40_28] (fun v41_29 w =>
 callM Tryz.prog 126 #[v41_29, a1, (l_16.getD 4 undef)] (fun v44_30 w =>
 oM Tryz.prog (.extract (.tmp 0) 0) 3 [v44_30] (fun v45_31 w =>
 oM Tryz.prog (.extract (.tmp 0) 1) 4 [v44_30] (fun v46_32 w =>
 K (.tuple #[v45_31, v46_32]) w) w) w) w) w) w)) w)) w0_l_16)) w)) w) w) w) w) w) w) w) w) w) w) w) w
theorem sh_74_eq (a0 : Value) (a1 : Value) (K : Value → World → Prop) (w : World) : sh_74 a0 a1 K w = code Tryz.prog (fun _ => 0) 47 (Tryz.f74.body.getD .skip) (slotsAt [a0, a1]) (retK Tryz.prog [.tmp 4, .tmp 5] K) w := by kernel_rfl
theorem sh_74_ok {a0 a1 : Value} {K : Value → World → Prop} {w : World} (h : sh_74 a0 a1 K w) : callM Tryz.prog 74 #[a0, a1] K w :=
  calls_of_code (fun _ => 0) (fn := Tryz.f74) (rs := [.tmp 4, .tmp 5]) Tryz.func74 rfl rfl (by kernel_rfl) (Nat.le_of_ble_eq_true rfl) ((sh_74_eq a0 a1 K w).mp h)
def sh_120 (a0 : Value) (a1 : Value) (K : Value → World → Prop) (w : World) : Prop :=
 oM Tryz.prog (.box 26 (.tmp 0)) 0 [a0] (fun v2_1 w =>
 oM Tryz.prog (.alloc 69) 0 [] (fun v4_2 w =>
 oM Tryz.prog (.fieldAddr 26 (.tmp 0) 2) 0 [v2_1] (fun v6_3 w =>
 oM Tryz.prog (.load 3 (.tmp 0)) 3 [v6_3] (fun v7_4 w =>
 oM Tryz.prog (.build 146 #[(0, (.tmp 0)), (1, (.tmp 1))]) 146 [(.int .i64 0), v7_4] (fun v8_5 w =>
 oM Tryz.prog (.buildSlice 142 1 #[(0, (.tmp 0))]) 142 [v8_5] (fun v9_6 w =>
 oM Tryz.prog (.build 144 #[(0, (.tmp 0)), (1, (.tmp 1))]) 144 [a1, v9_6] (fun v10_7 w =>
 oM Tryz.prog (.buildSlice 67 1 #[(0, (.tmp 0))]) 67 [v10_7] (fun v11_8 w =>
 oM Tryz.prog (.build 69 #[(0, (.tmp 0)), (1, (.tmp 1))]) 69 [(.int .i64 1), v11_8] (fun v12_9 w =>
 oM Tryz.prog (.store 69 (.tmp 0) (.tmp 1)) 0 [v4_2, v12_9] (fun _ w =>
 ∃ r_10, (do loadVar 69 (← asAddr v4_2) : Sem Value).run Tryz.prog w = .ok r_10 w ∧ K r_10 w) w) w) w) w) w) w) w) w) w) w
theorem sh_120_eq (a0 : Value) (a1 : Value) (K : Value → World → Prop) (w : World) : sh_120 a0 a1 K w = code Tryz.prog (fun _ => 0) 13 (Tryz.f120.body.getD .skip) (slotsAt [a0, a1]) (retK Tryz.prog [.cell 4 69] K) w := by kernel_rfl
theorem sh_120_ok {a0 a1 : Value} {K : Value → World → Prop} {w : World} (h : sh_120 a0 a1 K w) : callM Tryz.prog 120 #[a0, a1] K w :=
  calls_of_code (fun _ => 0) (fn := Tryz.f120) (rs := [.cell 4 69]) Tryz.func120 rfl rfl (by kernel_rfl) (Nat.le_of_ble_eq_true rfl) ((sh_120_eq a0 a1 K w).mp h)
def sh_68 (a0 : Value) (a1 : Value) (K : Value → World → Prop) (w : World) : Prop :=
 oM Tryz.prog (.box 26 (.tmp 0)) 0 [a0] (fun v2_1 w =>
 oM Tryz.prog (.load 26 (.tmp 0)) 26 [v2_1] (fun v11_2 w =>
 callM Tryz.prog 74 #[v11_2, a1] (fun v13_3 w =>
 oM Tryz.prog (.extract (.tmp 0) 0) 3 [v13_3] (fun v14_4 w =>
 oM Tryz.prog (.extract (.tmp 0) 1) 4 [v13_3] (fun v15_5 w =>
 oM Tryz.prog (.unOp .not 4 (.tmp 0)) 4 [v15_5] (fun v17_6 w =>
 condM v17_6
 (K (.slice none 0 0) w)
 (oM Tryz.prog (.call (Go.Call.mk (.builtin .len) #[(.tmp 0)] #[24])) 3 [a1] (fun v19_7 w =>
 loopM [undef, (.slice none 0 0), (.int .i64 0)] w (fun J_8 m_9 l_10 u_l_10 w0_l_10 => (fun w => (
 oM Tryz.prog (.binOp .lss 3 (.tmp 0) (.tmp 1) 3) 0 [(l_10.getD 2 undef), v19_7] (fun v21_11 w =>
 condM v21_11
 (oM Tryz.prog (.indexAddr 24 (.tmp 0) (.tmp 1)) 0 [a1, (l_10.getD 2 undef)] (fun v22_12 w =>
 oM Tryz.prog (.load 3 (.tmp 0)) 3 [v22_12] (fun v23_13 w =>
 heldM w (fun C_14 w => (((true : Bool) = true) ∧ (pureH (l_10.getD 1 undef) C_14 (fun v24_15 =>
 oH Tryz.prog (.load 26 (.tmp 0)) 26 [v2_1] C_14 (fun v25_16 =>
 pureH v23_13 C_14 (fun v26_17 =>
 oH Tryz.prog (.load 26 (.tmp 0)) 26 [v2_1] C_14 (fun v28_18 =>
 oH Tryz.prog (.fieldAddr 26 (.tmp 0) 0) 0 [v2_1] C_14 (fun v29_19 =>
 oH Tryz.prog (.load 23 (.tmp 0)) 23 [v29_19] C_14 (fun v30_20 =>
 pureH v23_13 C_14 (fun v31_21 =>
 oH Tryz.prog (.fieldAddr 26 (.tmp 0) 0) 0 [v2_1] C_14 (fun v32_22 =>
 oH Tryz.prog (.fieldAddr 23 (.tmp 0) 2) 0 [v32_22] C_14 (fun v33_23 =>
 oH Tryz.prog (.load 3 (.tmp 0)) 3 [v33_23] C_14 (fun v34_24 =>
 ∃ S_25 : World → World → Prop, ∃ R_26 : Value → World → Prop, (∀ v w w_1, S_25 w w_1 → R_26 v w → R_26 v w_1) ∧
 (∀ w, C_14 w → (callM Tryz.prog 120 #[v25_16, v26_17] (fun v w_1 => C_14 w_1 ∧ S_25 w w_1 ∧ R_26 v w_1) w)) ∧
 (∃ R_27 : Value → World → Prop, (∀ v w w_1, S_25 w w_1 → R_27 v w → R_27 v w_1) ∧
 (∀ w, C_14 w → (callM Tryz.prog 121 #[v30_20, v31_21, v34_24] (fun v w_1 => C_14 w_1 ∧ S_25 w w_1 ∧ R_27 v w_1) w)) ∧
 (∃ R_28 : Value → World → Prop, (∀ v w w_1, S_25 w w_1 → R_28 v w → R_28 v w_1) ∧
 (∀ w, C_14 w → ∀ v35_29, R_27 v35_29 w → (callM Tryz.prog 120 #[v28_18, v35_29] (fun v w_1 => C_14 w_1 ∧ S_25 w w_1 ∧ R_28 v w_1) w)) ∧
 (∃ R_30 : Value → World → Prop, (∀ v w w_1, S_25 w w_1 → R_30 v w → R_30 v w_1) ∧
 (∀ w, C_14 w → ∀ v27_31, R_26 v27_31 w → ∀ v36_32, R_28 v36_32 w → (oM Tryz.prog (.buildSlice 63 2 #[(0, (.tmp 0)), (1, (.tmp 1))]) 63 [v27_31, v36_32] (fun v w_1 => C_14 w_1 ∧ S_25 w w_1 ∧ R_30 v w_1) w)) ∧
 (∃ R_33 : Value → World → Prop, (∀ v w w_1, S_25 w w_1 → R_33 v w → R_33 v w_1) ∧
 (∀ w, C_14 w → ∀ v37_34, R_30 v37_34 w → (oM Tryz.prog (.build 65 #[(0, (.tmp 0)), (1, (.tmp 1))]) 65 [(.int .i64 1), v37_34] (fun v w_1 => C_14 w_1 ∧ S_25 w w_1 ∧ R_33 v w_1) w)) ∧
 (∃ R_35 : Value → World → Prop, (∀ v w w_1, S_25 w w_1 → R_35 v w → R_35 v w_1) ∧
 (∀ w, C_14 w → ∀ v38_36, R_33 v38_36 w → (oM Tryz.prog (.buildSlice 27 1 #[(0, (.tmp 0))]) 27 [v38_36] (fun v w_1 => C_14 w_1 ∧ S_25 w w_1 ∧ R_35 v w_1) w)) ∧
 (∀ w, C_14 w → ∀ v27_37, R_26 v27_37 w → ∀ v35_38, R_27 v35_38 w → ∀ v36_39, R_28 v36_39 w → ∀ v37_40, R_30 v37_40 w → ∀ v38_41, R_33 v38_41 w → ∀ v39_42, R_35 v39_42 w → (
 oM Tryz.prog (.call (Go.Call.mk (.builtin .append) #[(.tmp 0), (.tmp 1)] #[27, 27])) 27 [v24_15, v39_42] (fun v40_43 w =>
 oM Tryz.prog (.binOp .add 3 (.tmp 0) (.tmp 1) 3) 3 [(l_10.getD 2 undef), (.int .i64 1)] (fun v41_44 w =>
 J_8 [v23_13, v40_43, v41_44] w ∧ m_9 [v23_13, v40_43, v41_44] w < m_9 l_10 w0_l_10) w) w))))))))))))))))))))) w) w)
 (K (l_10.getD 1 undef) w)) w)) w0_l_10)) w)) w) w) w) w) w) w
theorem sh_68_eq (a0 : Value) (a1 : Value) (K : Value → World → Prop) (w : World) : sh_68 a0 a1 K w = code Tryz.prog (fun _ => .free [0, 1, 2, 4, 5, 6, 7, 8, 9, 10] [3, 11, 12, 13, 14, 15] [16, 17]) 43 (Tryz.f68.body.getD .skip) (slotsAt [a0, a1]) (retK Tryz.prog [.tmp 4] K) w := by kernel_rfl
theorem sh_68_ok {a0 a1 : Value} {K : Value → World → Prop} {w : World} (h : sh_68 a0 a1 K w) : callM Tryz.prog 68 #[a0, a1] K w :=
  calls_of_code (fun _ => .free [0, 1, 2, 4, 5, 6, 7, 8, 9, 10] [3, 11, 12, 13, 14, 15] [16, 17]) (fn := Tryz.f68) (rs := [.tmp 4]) Tryz.func68 rfl rfl (by kernel_rfl) (Nat.le_of_ble_eq_true rfl) ((sh_68_eq a0 a1 K w).mp h)
def sh_40 (a0 : Value) (a1 : Value) (a2 : Value) (K : Value → World → Prop) (w : World) : Prop :=
 oM Tryz.prog (.box 26 (.tmp 0)) 0 [a0] (fun v3_1 w =>
 oM Tryz.prog (.load 26 (.tmp 0)) 26 [v3_1] (fun v10_2 w =>
 callM Tryz.prog 74 #[v10_2, a2] (fun v12_3 w =>
 oM Tryz.prog (.extract (.tmp 0) 0) 3 [v12_3] (fun v13_4 w =>
 oM Tryz.prog (.extract (.tmp 0) 1) 4 [v12_3] (fun v14_5 w =>
 oM Tryz.prog (.unOp .not 4 (.tmp 0)) 4 [v14_5] (fun v16_6 w =>
 gdM (gd v16_6 false) (oM Tryz.prog (.fieldAddr 26 (.tmp 0) 0) 0 [v3_1]) (fun v18_7 w =>
 gdM (gd v16_6 false) (oM Tryz.prog (.load 23 (.tmp 0)) 23 [v18_7]) (fun v19_8 w =>
 gdM (gd v16_6 false) (pureM a1) (fun v20_9 w =>
 gdM (gd v16_6 false) (callM Tryz.prog 109 #[v19_8, v20_9]) (fun v21_10 w =>
 gdM (gd v16_6 false) (oM Tryz.prog (.unOp .not 4 (.tmp 0)) 4 [v21_10]) (fun v22_11 w =>
 oM Tryz.prog (.pick (.tmp 0) (.tmp 1) (.tmp 2)) 4 [v16_6, (.bool true), v22_11] (fun v23_12 w =>
 condM v23_12
 (K (.slice none 0 0) w)
 (heldM w (fun C_13 w => (((true : Bool) = true) ∧ (oH Tryz.prog (.load 26 (.tmp 0)) 26 [v3_1] C_13 (fun v24_14 =>
 pureH a2 C_13 (fun v25_15 =>
 oH Tryz.prog (.load 26 (.tmp 0)) 26 [v3_1] C_13 (fun v27_16 =>
 oH Tryz.prog (.fieldAddr 26 (.tmp 0) 0) 0 [v3_1] C_13 (fun v28_17 =>
 oH Tryz.prog (.load 23 (.tmp 0)) 23 [v28_17] C_13 (fun v29_18 =>
 pureH a1 C_13 (fun v30_19 =>
 pureH v13_4 C_13 (fun v31_20 =>
 ∃ S_21 : World → World → Prop, ∃ R_22 : Value → World → Prop, (∀ v w w_1, S_21 w w_1 → R_22 v w → R_22 v w_1) ∧
 (∀ w, C_13 w → (callM Tryz.prog 68 #[v24_14, v25_15] (fun v w_1 => C_13 w_1 ∧ S_21 w w_1 ∧ R_22 v w_1) w)) ∧
 (∃ R_23 : Value → World → Prop, (∀ v w w_1, S_21 w w_1 → R_23 v w → R_23 v w_1) ∧
 (∀ w, C_13 w → (callM Tryz.prog 121 #[v29_18, v30_19, v31_20] (fun v w_1 => C_13 w_1 ∧ S_21 w w_1 ∧ R_23 v w_1) w)) ∧
 (∀ w, C_13 w → ∀ v26_24, R_22 v26_24 w → ∀ v32_25, R_23 v32_25 w → (
 callM Tryz.prog 120 #[v27_16, v32_25] (fun v33_26 w =>
 oM Tryz.prog (.buildSlice 63 1 #[(0, (.tmp 0))]) 63 [v33_26] (fun v34_27 w =>
 oM Tryz.prog (.build 65 #[(0, (.tmp 0)), (1, (.tmp 1))]) 65 [(.int .i64 1), v34_27] (fun v35_28 w =>
 oM Tryz.prog (.buildSlice 27 1 #[(0, (.tmp 0))]) 27 [v35_28] (fun v36_29 w =>
 oM Tryz.prog (.call (Go.Call.mk (.builtin .append) #[(.tmp 0), (.tmp 1)] #[27, 27])) 27 [v26_24, v36_29] (fun v37_30 w =>
 K v37_30 w) w) w) w) w) w))))))))))))))) w) w) w) w) w) w) w) w) w) w) w) w
theorem sh_40_eq (a0 : Value) (a1 : Value) (a2 : Value) (K : Value → World → Prop) (w : World) : sh_40 a0 a1 a2 K w = code Tryz.prog (fun _ => .free [0, 1, 3, 4, 5, 6, 7] [2, 8] [9, 10, 11, 12, 13, 14]) 38 (Tryz.f40.body.getD .skip) (slotsAt [a0, a1, a2]) (retK Tryz.prog [.tmp 6] K) w := by kernel_rfl
theorem sh_40_ok {a0 a1 a2 : Value} {K : Value → World → Prop} {w : World} (h : sh_40 a0 a1 a2 K w) : callM Tryz.prog 40 #[a0, a1, a2] K w :=
  calls_of_code (fun _ => .free [0, 1, 3, 4, 5, 6, 7] [2, 8] [9, 10, 11, 12, 13, 14]) (fn := Tryz.f40) (rs := [.tmp 6]) Tryz.func40 rfl rfl (by kernel_rfl) (Nat.le_of_ble_eq_true rfl) ((sh_40_eq a0 a1 a2 K w).mp h)
def sh_76 (a0 : Value) (a1 : Value) (a2 : Value) (K : Value → World → Prop) (w : World) : Prop :=
 oM Tryz.prog (.box 26 (.tmp 0)) 0 [a0] (fun v3_1 w =>
 oM Tryz.prog (.call (Go.Call.mk (.builtin .len) #[(.tmp 0)] #[24])) 3 [a2] (fun v17_2 w =>
 oM Tryz.prog (.load 26 (.tmp 0)) 26 [v3_1] (fun v18_3 w =>
 callM Tryz.prog 21 #[v18_3] (fun v19_4 w =>
 oM Tryz.prog (.unOp .not 4 (.tmp 0)) 4 [v19_4] (fun v20_5 w =>
 gdM (gd v20_5 false) (pureM v17_2) (fun v22_6 w =>
 gdM (gd v20_5 false) (oM Tryz.prog (.binOp .lss 3 (.tmp 0) (.tmp 1) 3) 4 [v22_6, (.int .i64 1)]) (fun v23_7 w =>
 oM Tryz.prog (.pick (.tmp 0) (.tmp 1) (.tmp 2)) 4 [v20_5, (.bool true), v23_7] (fun v24_8 w =>
 gdM (gd v24_8 false) (pureM v17_2) (fun v26_9 w =>
 gdM (gd v24_8 false) (oM Tryz.prog (.binOp .gtr 3 (.tmp 0) (.tmp 1) 3) 4 [v26_9, (.int .i64 60)]) (fun v27_10 w =>
 oM Tryz.prog (.pick (.tmp 0) (.tmp 1) (.tmp 2)) 4 [v24_8, (.bool true), v27_10] (fun v28_11 w =>
 gdM (gd v28_11 false) (oM Tryz.prog (.load 26 (.tmp 0)) 26 [v3_1]) (fun v30_12 w =>
 gdM (gd v28_11 false) (pureM a2) (fun v31_13 w =>
 gdM (gd v28_11 false) (pureM v17_2) (fun v32_14 w =>
 gdM (gd v28_11 false) (callM Tryz.prog 140 #[v30_12, v31_13, v32_14]) (fun v33_15 w =>
 gdM (gd v28_11 false) (oM Tryz.prog (.unOp .not 4 (.tmp 0)) 4 [v33_15]) (fun v34_16 w =>
 oM Tryz.prog (.pick (.tmp 0) (.tmp 1) (.tmp 2)) 4 [v28_11, (.bool true), v34_16] (fun v35_17 w =>
 gdM (gd v35_17 false) (pureM a1) (fun v37_18 w =>
 gdM (gd v35_17 false) (oM Tryz.prog (.binOp .lss 3 (.tmp 0) (.tmp 1) 3) 4 [v37_18, (.int .i64 0)]) (fun v38_19 w =>
 oM Tryz.prog (.pick (.tmp 0) (.tmp 1) (.tmp 2)) 4 [v35_17, (.bool true), v38_19] (fun v39_20 w =>
 gdM (gd v39_20 false) (pureM a1) (fun v41_21 w =>
 gdM (gd v39_20 false) (pureM v17_2) (fun v42_22 w =>
 gdM (gd v39_20 false) (oM Tryz.prog (.binOp .shl 3 (.tmp 0) (.tmp 1) 3) 3 [(.int .i64 1), v42_22]) (fun v43_23 w =>
 gdM (gd v39_20 false) (oM Tryz.prog (.binOp .geq 3 (.tmp 0) (.tmp 1) 3) 4 [v41_21, v43_23]) (fun v44_24 w =>
 oM Tryz.prog (.pick (.tmp 0) (.tmp 1) (.tmp 2)) 4 [v39_20, (.bool true), v44_24] (fun v45_25 w =>
 condM v45_25
 (K (.tuple #[(.slice none 0 0), (.slice none 0 0), (.bool false)]) w)
 (oM Tryz.prog (.call (Go.Call.mk (.builtin .len) #[(.tmp 0)] #[24])) 3 [a2] (fun v47_26 w =>
 loopM [undef, undef, undef, undef, (.slice none 0 0), (.slice none 0 0), (.int .i64 0)] w (fun J_27 m_28 l_29 u_l_29 w0_l_29 => (fun w => (
 oM Tryz.prog (.binOp .lss 3 (.tmp 0) (.tmp 1) 3) 0 [(l_29.getD 6 undef), v47_26] (fun v49_30 w =>
 condM v49_30
 (oM Tryz.prog (.indexAddr 24 (.tmp 0) (.tmp 1)) 0 [a2, (l_29.getD 6 undef)] (fun v51_31 w =>
 oM Tryz.prog (.load 3 (.tmp 0)) 3 [v51_31] (fun v52_32 w =>
 oM Tryz.prog (.binOp .shr 3 (.tmp 0) (.tmp 1) 3) 3 [a1, (l_29.getD 6 undef)] (fun v55_33 w =>
 oM Tryz.prog (.binOp .and 3 (.tmp 0) (.tmp 1) 3) 3 [v55_33, (.int .i64 1)] (fun v56_34 w =>
 oM Tryz.prog (.makeSlice 114 (.tmp 0) (.tmp 1)) 114 [(.int .i64 2), (.int .i64 2)] (fun v57_35 w =>
 oM Tryz.prog (.buildSlice 24 1 #[(0, (.tmp 0))]) 24 [v52_32] (fun v61_36 w =>
 oM Tryz.prog (.build 113 #[(0, (.tmp 0)), (1, (.tmp 1))]) 113 [(.bool true), v61_36] (fun v62_37 w =>
 oM Tryz.prog (.indexAddr 114 (.tmp 0) (.tmp 1)) 0 [v57_35, v56_34] (fun v63_38 w =>
 oM Tryz.prog (.store 113 (.tmp 0) (.tmp 1)) 0 [v63_38, v62_37] (fun _ w =>
 oM Tryz.prog (.load 26 (.tmp 0)) 26 [v3_1] (fun v65_39 w =>
 callM Tryz.prog 44 #[v65_39, v56_34, v52_32] (fun v68_40 w =>
 oM Tryz.prog (.buildSlice 24 1 #[(0, (.tmp 0))]) 24 [v68_40] (fun v69_41 w =>
 oM Tryz.prog (.call (Go.Call.mk (.builtin .append) #[(.tmp 0), (.tmp 1)] #[24, 24])) 24 [(l_29.getD 4 undef), v69_41] (fun v70_42 w =>
 oM Tryz.prog (.buildSlice 28 1 #[(0, (.tmp 0))]) 28 [v57_35] (fun v73_43 w =>
 oM Tryz.prog (.call (Go.Call.mk (.builtin .append) #[(.tmp 0), (.tmp 1)] #[28, 28])) 28 [(l_29.getD 5 undef), v73_43] (fun v74_44 w =>
 oM Tryz.prog (.binOp .add 3 (.tmp 0) (.tmp 1) 3) 3 [(l_29.getD 6 undef), (.int .i64 1)] (fun v75_45 w =>
 J_27 [(l_29.getD 6 undef), v52_32, v56_34, v57_35, v70_42, v74_44, v75_45] w ∧ m_28 [(l_29.getD 6 undef), v52_32, v56_34, v57_35, v70_42, v74_44, v75_45] w < m_28 l_29 w0_l_29) w) w) w) w) w) w) w) w) w) w) w) w) w) w) w) w)
 (K (.tuple #[(l_29.getD 4 undef), (l_29.getD 5 undef), (.bool true)]) w)) w)) w0_l_29)) w)) w) w) w) w) w) w) w) w) w) w) w) w) w) w) w) w) w) w) w) w) w) w) w) w) w
theorem sh_76_eq (a0 : Value) (a1 : Value) (a2 : Value) (K : Value → World → Prop) (w : World) : sh_76 a0 a1 a2 K w = code Tryz.prog (fun _ => 0) 78 (Tryz.f76.body.getD .skip) (slotsAt [a0, a1, a2]) (retK Tryz.prog [.tmp 6, .tmp 7, .tmp 8] K) w := by kernel_rfl
theorem sh_76_ok {a0 a1 a2 : Value} {K : Value → World → Prop} {w : World} (h : sh_76 a0 a1 a2 K w) : callM Tryz.prog 76 #[a0, a1, a2] K w :=
  calls_of_code (fun _ => 0) (fn := Tryz.f76) (rs := [.tmp 6, .tmp 7, .tmp 8]) Tryz.func76 rfl rfl (by kernel_rfl) (Nat.le_of_ble_eq_true rfl) ((sh_76_eq a0 a1 a2 K w).mp h)
def sh_71 (a0 : Value) (a1 : Value) (a2 : Value) (K : Value → World → Prop) (w : World) : Prop :=
 oM Tryz.prog (.box 26 (.tmp 0)) 0 [a0] (fun v3_1 w =>
 oM Tryz.prog (.load 26 (.tmp 0)) 26 [v3_1] (fun v11_2 w =>
 callM Tryz.prog 21 #[v11_2] (fun v12_3 w =>
 oM Tryz.prog (.unOp .not 4 (.tmp 0)) 4 [v12_3] (fun v13_4 w =>
 gdM (gd v13_4 false) (pureM a2) (fun v15_5 w =>
 gdM (gd v13_4 false) (oM Tryz.prog (.call (Go.Call.mk (.builtin .len) #[(.tmp 0)] #[24])) 3 [v15_5]) (fun v16_6 w =>
 gdM (gd v13_4 false) (oM Tryz.prog (.binOp .gtr 3 (.tmp 0) (.tmp 1) 3) 4 [v16_6, (.int .i64 60)]) (fun v17_7 w =>
 oM Tryz.prog (.pick (.tmp 0) (.tmp 1) (.tmp 2)) 4 [v13_4, (.bool true), v17_7] (fun v18_8 w =>
 condM v18_8
 (K (.int .i64 0) w)
 (oM Tryz.prog (.fieldAddr 26 (.tmp 0) 0) 0 [v3_1] (fun v19_9 w =>
 oM Tryz.prog (.fieldAddr 23 (.tmp 0) 1) 0 [v19_9] (fun v20_10 w =>
 oM Tryz.prog (.load 3 (.tmp 0)) 3 [v20_10] (fun v21_11 w =>
 callM Tryz.prog 42 #[v21_11, a1, (.int .i64 0)] (fun v24_12 w =>
 oM Tryz.prog (.call (Go.Call.mk (.builtin .len) #[(.tmp 0)] #[24])) 3 [a2] (fun v26_13 w =>
 loopM [undef, undef, v24_12, (.int .i64 0)] w (fun J_14 m_15 l_16 u_l_16 w0_l_16 => (fun w => (
 oM Tryz.prog (.binOp .lss 3 (.tmp 0) (.tmp 1) 3) 0 [(l_16.getD 3 undef), v26_13] (fun v28_17 w =>
 condM v28_17
 (oM Tryz.prog (.indexAddr 24 (.tmp 0) (.tmp 1)) 0 [a2, (l_16.getD 3 undef)] (fun v30_18 w =>
 oM Tryz.prog (.load 3 (.tmp 0)) 3 [v30_18] (fun v31_19 w =>
 oM Tryz.prog (.binOp .shl 3 (.tmp 0) (.tmp 1) 3) 3 [(.int .i64 1), (l_16.getD 3 undef)] (fun v37_20 w =>
 callM Tryz.prog 43 #[v21_11, v31_19, v37_20] (fun v38_21 w =>
 callM Tryz.prog 48 #[v21_11, (l_16.getD 2 undef), v38_21] (fun v39_22 w =>
 oM Tryz.prog (.binOp .add 3 (.tmp 0) (.tmp 1) 3) 3 [(l_16.getD 3 undef), (.int .i64 1)] (fun v40_23 w =>
 J_14 [(l_16.getD 3 undef), v31_19, v39_22, v40_23] w ∧ m_15 [(l_16.getD 3 undef), v31_19, v39_22, v40_23] w < m_15 l_16 w0_l_16) w) w) w) w) w) w)
 (K (l_16.getD 2 undef) w)) w)) w0_l_16)) w) w) w) w) w)) w) w) w) w) w) w) w) w
theorem sh_71_eq (a0 : Value) (a1 : Value) (a2 : Value) (K : Value → World → Prop) (w : World) : sh_71 a0 a1 a2 K w = code Tryz.prog (fun _ => 0) 42 (Tryz.f71.body.getD .skip) (slotsAt [a0, a1, a2]) (retK Tryz.prog [.tmp 6] K) w := by kernel_rfl
theorem sh_71_ok {a0 a1 a2 : Value} {K : Value → World → Prop} {w : World} (h : sh_71 a0 a1 a2 K w) : callM Tryz.prog 71 #[a0, a1, a2] K w :=
  calls_of_code (fun _ => 0) (fn := Tryz.f71) (rs := [.tmp 6]) Tryz.func71 rfl rfl (by kernel_rfl) (Nat.le_of_ble_eq_true rfl) ((sh_71_eq a0 a1 a2 K w).mp h)
def sh_128 (a0 : Value) (a1 : Value) (a2 : Value) (a3 : Value) (K : Value → World → Prop) (w : World) : Prop :=
 oM Tryz.prog (.box 26 (.tmp 0)) 0 [a0] (fun v4_1 w =>
 heldM w (fun C_2 w => (((true : Bool) = true) ∧ (pureH a3 C_2 (fun v9_3 =>
 pureH a1 C_2 (fun v11_4 =>
 pureH a2 C_2 (fun v12_5 =>
 oH Tryz.prog (.fieldAddr 26 (.tmp 0) 0) 0 [v4_1] C_2 (fun v16_6 =>
 oH Tryz.prog (.fieldAddr 23 (.tmp 0) 1) 0 [v16_6] C_2 (fun v17_7 =>
 oH Tryz.prog (.load 3 (.tmp 0)) 3 [v17_7] C_2 (fun v18_8 =>
 ∃ S_9 : World → World → Prop, ∃ R_10 : Value → World → Prop, (∀ v w w_1, S_9 w w_1 → R_10 v w → R_10 v w_1) ∧
 (∀ w, C_2 w → (callM Tryz.prog 160 #[v9_3] (fun v w_1 => C_2 w_1 ∧ S_9 w w_1 ∧ R_10 v w_1) w)) ∧
 (∃ R_11 : Value → World → Prop, (∀ v w w_1, S_9 w w_1 → R_11 v w → R_11 v w_1) ∧
 (∀ w, C_2 w → (oM Tryz.prog (.buildSlice 24 2 #[(0, (.tmp 0)), (1, (.tmp 1))]) 24 [v11_4, v12_5] (fun v w_1 => C_2 w_1 ∧ S_9 w w_1 ∧ R_11 v w_1) w)) ∧
 (∃ R_12 : Value → World → Prop, (∀ v w w_1, S_9 w w_1 → R_12 v w → R_12 v w_1) ∧
 (∀ w, C_2 w → ∀ v13_13, R_11 v13_13 w → (callM Tryz.prog 114 #[v13_13] (fun v w_1 => C_2 w_1 ∧ S_9 w w_1 ∧ R_12 v w_1) w)) ∧
 (∃ R_14 : Value → World → Prop, (∀ v w w_1, S_9 w w_1 → R_14 v w → R_14 v w_1) ∧
 (∀ w, C_2 w → ∀ v10_15, R_10 v10_15 w → ∀ v14_16, R_12 v14_16 w → (oM Tryz.prog (.binOp .add 9 (.tmp 0) (.tmp 1) 9) 9 [v10_15, v14_16] (fun v w_1 => C_2 w_1 ∧ S_9 w w_1 ∧ R_14 v w_1) w)) ∧
 (∀ w, C_2 w → ∀ v10_17, R_10 v10_17 w → ∀ v13_18, R_11 v13_18 w → ∀ v14_19, R_12 v14_19 w → ∀ v15_20, R_14 v15_20 w → (
 callM Tryz.prog 159 #[v15_20, v18_8] (fun v19_21 w =>
 K v19_21 w) w))))))))))))))) w
theorem sh_128_eq (a0 : Value) (a1 : Value) (a2 : Value) (a3 : Value) (K : Value → World → Prop) (w : World) : sh_128 a0 a1 a2 a3 K w = code Tryz.prog (fun _ => .free [0, 2, 3, 7, 8, 9] [1, 4, 5, 6] [10, 11]) 20 (Tryz.f128.body.getD .skip) (slotsAt [a0, a1, a2, a3]) (retK Tryz.prog [.tmp 8] K) w := by kernel_rfl
theorem sh_128_ok {a0 a1 a2 a3 : Value} {K : Value → World → Prop} {w : World} (h : sh_128 a0 a1 a2 a3 K w) : callM Tryz.prog 128 #[a0, a1, a2, a3] K w :=
  calls_of_code (fun _ => .free [0, 2, 3, 7, 8, 9] [1, 4, 5, 6] [10, 11]) (fn := Tryz.f128) (rs := [.tmp 8]) Tryz.func128 rfl rfl (by kernel_rfl) (Nat.le_of_ble_eq_true rfl) ((sh_128_eq a0 a1 a2 a3 K w).mp h)
def sh_45 (a0 : Value) (a1 : Value) (a2 : Value) (a3 : Value) (K : Value → World → Prop) (w : World) : Prop :=
 oM Tryz.prog (.box 26 (.tmp 0)) 0 [a0] (fun v4_1 w =>
 oM Tryz.prog (.alloc 74) 0 [] (fun v8_2 w =>
 oM Tryz.prog (.load 26 (.tmp 0)) 26 [v4_1] (fun v12_3 w =>
 callM Tryz.prog 21 #[v12_3] (fun v13_4 w =>
 oM Tryz.prog (.unOp .not 4 (.tmp 0)) 4 [v13_4] (fun v14_5 w =>
 gdM (gd v14_5 false) (oM Tryz.prog (.load 26 (.tmp 0)) 26 [v4_1]) (fun v16_6 w =>
 gdM (gd v14_5 false) (pureM a1) (fun v17_7 w =>
 gdM (gd v14_5 false) (callM Tryz.prog 127 #[v16_6, v17_7]) (fun v18_8 w =>
 gdM (gd v14_5 false) (oM Tryz.prog (.unOp .not 4 (.tmp 0)) 4 [v18_8]) (fun v19_9 w =>
 oM Tryz.prog (.pick (.tmp 0) (.tmp 1) (.tmp 2)) 4 [v14_5, (.bool true), v19_9] (fun v20_10 w =>
 gdM (gd v20_10 false) (oM Tryz.prog (.load 26 (.tmp 0)) 26 [v4_1]) (fun v22_11 w =>
 gdM (gd v20_10 false) (pureM a2) (fun v23_12 w =>
 gdM (gd v20_10 false) (callM Tryz.prog 127 #[v22_11, v23_12]) (fun v24_13 w =>
 gdM (gd v20_10 false) (oM Tryz.prog (.unOp .not 4 (.tmp 0)) 4 [v24_13]) (fun v25_14 w =>
 oM Tryz.prog (.pick (.tmp 0) (.tmp 1) (.tmp 2)) 4 [v20_10, (.bool true), v25_14] (fun v26_15 w =>
 condM v26_15
 (oM Tryz.prog (.build 74 #[]) 74 [] (fun v27_16 w =>
 oM Tryz.prog (.store 74 (.tmp 0) (.tmp 1)) 0 [v8_2, v27_16] (fun _ w =>
 ∃ r_17, (do loadVar 74 (← asAddr v8_2) : Sem Value).run Tryz.prog w = .ok r_17 w ∧ K (.tuple #[r_17, (.bool false)]) w) w) w)
 (oM Tryz.prog (.fieldAddr 26 (.tmp 0) 0) 0 [v4_1] (fun v28_18 w =>
 oM Tryz.prog (.load 23 (.tmp 0)) 23 [v28_18] (fun v29_19 w =>
 oM Tryz.prog (.alloc 23) 0 [] (fun v10_20 w =>
 oM Tryz.prog (.store 23 (.tmp 0) (.tmp 1)) 0 [v10_20, v29_19] (fun _ w =>
 heldM w (fun C_21 w => (((true : Bool) = true) ∧ (oH Tryz.prog (.load 26 (.tmp 0)) 26 [v4_1] C_21 (fun v30_22 =>
 oH Tryz.prog (.load 23 (.tmp 0)) 23 [v10_20] C_21 (fun v31_23 =>
 oH Tryz.prog (.fieldAddr 23 (.tmp 0) 2) 0 [v10_20] C_21 (fun v32_24 =>
 oH Tryz.prog (.load 3 (.tmp 0)) 3 [v32_24] C_21 (fun v33_25 =>
 pureH a1 C_21 (fun v34_26 =>
 oH Tryz.prog (.load 23 (.tmp 0)) 23 [v10_20] C_21 (fun v36_27 =>
 oH Tryz.prog (.fieldAddr 23 (.tmp 0) 2) 0 [v10_20] C_21 (fun v37_28 =>
 oH Tryz.prog (.load 3 (.tmp 0)) 3 [v37_28] C_21 (fun v38_29 =>
 pureH a2 C_21 (fun v39_30 =>
 pureH a3 C_21 (fun v41_31 =>
 ∃ S_32 : World → World → Prop, ∃ R_33 : Value → World → Prop, (∀ v w w_1, S_32 w w_1 → R_33 v w → R_33 v w_1) ∧
 (∀ w, C_21 w → (callM Tryz.prog 46 #[v31_23, v33_25, v34_26] (fun v w_1 => C_21 w_1 ∧ S_32 w w_1 ∧ R_33 v w_1) w)) ∧
 (∃ R_34 : Value → World → Prop, (∀ v w w_1, S_32 w w_1 → R_34 v w → R_34 v w_1) ∧
 (∀ w, C_21 w → (callM Tryz.prog 46 #[v36_27, v38_29, v39_30] (fun v w_1 => C_21 w_1 ∧ S_32 w w_1 ∧ R_34 v w_1) w)) ∧
 (∀ w, C_21 w → ∀ v35_35, R_33 v35_35 w → ∀ v40_36, R_34 v40_36 w → (
 callM Tryz.prog 128 #[v30_22, v35_35, v40_36, v41_31] (fun v42_37 w =>
 heldM w (fun C_38 w => (((true : Bool) = true) ∧ (pureH v42_37 C_38 (fun v43_39 =>
 oH Tryz.prog (.fieldAddr 23 (.tmp 0) 1) 0 [v10_20] C_38 (fun v44_40 =>
 oH Tryz.prog (.load 3 (.tmp 0)) 3 [v44_40] C_38 (fun v45_41 =>
 pureH a2 C_38 (fun v46_42 =>
 oH Tryz.prog (.fieldAddr 23 (.tmp 0) 1) 0 [v10_20] C_38 (fun v47_43 =>
 oH Tryz.prog (.load 3 (.tmp 0)) 3 [v47_43] C_38 (fun v48_44 =>
 pureH v42_37 C_38 (fun v49_45 =>
 pureH a1 C_38 (fun v50_46 =>
 ∃ S_47 : World → World → Prop, ∃ R_48 : Value → World → Prop, (∀ v w w_1, S_47 w w_1 → R_48 v w → R_48 v w_1) ∧
 (∀ w, C_38 w → (callM Tryz.prog 43 #[v48_44, v49_45, v50_46] (fun v w_1 => C_38 w_1 ∧ S_47 w w_1 ∧ R_48 v w_1) w)) ∧
 (∃ R_49 : Value → World → Prop, (∀ v w w_1, S_47 w w_1 → R_49 v w → R_49 v w_1) ∧
 (∀ w, C_38 w → ∀ v51_50, R_48 v51_50 w → (callM Tryz.prog 42 #[v45_41, v46_42, v51_50] (fun v w_1 => C_38 w_1 ∧ S_47 w w_1 ∧ R_49 v w_1) w)) ∧
 (∀ w, C_38 w → ∀ v51_51, R_48 v51_51 w → ∀ v52_52, R_49 v52_52 w → (
 oM Tryz.prog (.build 74 #[(0, (.tmp 0)), (1, (.tmp 1))]) 74 [v43_39, v52_52] (fun v53_53 w =>
 oM Tryz.prog (.store 74 (.tmp 0) (.tmp 1)) 0 [v8_2, v53_53] (fun _ w =>
 ∃ r_54, (do loadVar 74 (← asAddr v8_2) : Sem Value).run Tryz.prog w = .ok r_54 w ∧ K (.tuple #[r_54, (.bool true)]) w) w) w))))))))))))))) w))))))))))))))))) w) w) w) w)) w) w) w) w) w) w) w) w) w) w) w) w) w) w) w
theorem sh_45_eq (a0 : Value) (a1 : Value) (a2 : Value) (a3 : Value) (K : Value → World → Prop) (w : World) : sh_45 a0 a1 a2 a3 K w = code Tryz.prog (fun i => bif Nat.beq i 4 then .free [0, 1, 2, 3, 4, 6, 7, 8, 9, 11] [5, 10] [12, 13] else bif Nat.beq i 5 then .free [0, 1, 2, 3, 4, 5, 6, 7] [8, 9] [10, 11, 12] else 0) 54 (Tryz.f45.body.getD .skip) (slotsAt [a0, a1, a2, a3]) (retK Tryz.prog [.cell 8 74, .tmp 9] K) w := by kernel_rfl
theorem sh_45_ok {a0 a1 a2 a3 : Value} {K : Value → World → Prop} {w : World} (h : sh_45 a0 a1 a2 a3 K w) : callM Tryz.prog 45 #[a0, a1, a2, a3] K w :=
  calls_of_code (fun i => bif Nat.beq i 4 then .free [0, 1, 2, 3, 4, 6, 7, 8, 9, 11] [5, 10] [12, 13] else bif Nat.beq i 5 then .free [0, 1, 2, 3, 4, 5, 6, 7] [8, 9] [10, 11, 12] else 0) (fn := Tryz.f45) (rs := [.cell 8 74, .tmp 9]) Tryz.func45 rfl rfl (by kernel_rfl) (Nat.le_of_ble_eq_true rfl) ((sh_45_eq a0 a1 a2 a3 K w).mp h)
def sh_47 (a0 : Value) (a1 : Value) (a2 : Value) (a3 : Value) (K : Value → World → Prop) (w : World) : Prop :=
 oM Tryz.prog (.box 26 (.tmp 0)) 0 [a0] (fun v4_1 w =>
 oM Tryz.prog (.box 74 (.tmp 0)) 0 [a3] (fun v7_2 w =>
 oM Tryz.prog (.fieldAddr 26 (.tmp 0) 0) 0 [v4_1] (fun v11_3 w =>
 oM Tryz.prog (.load 23 (.tmp 0)) 23 [v11_3] (fun v12_4 w =>
 oM Tryz.prog (.alloc 23) 0 [] (fun v9_5 w =>
 oM Tryz.prog (.store 23 (.tmp 0) (.tmp 1)) 0 [v9_5, v12_4] (fun _ w =>
 oM Tryz.prog (.load 26 (.tmp 0)) 26 [v4_1] (fun v13_6 w =>
 callM Tryz.prog 21 #[v13_6] (fun v14_7 w =>
 oM Tryz.prog (.unOp .not 4 (.tmp 0)) 4 [v14_7] (fun v15_8 w =>
 gdM (gd v15_8 false) (oM Tryz.prog (.load 23 (.tmp 0)) 23 [v9_5]) (fun v17_9 w =>
 gdM (gd v15_8 false) (pureM a1) (fun v18_10 w =>
 gdM (gd v15_8 false) (callM Tryz.prog 109 #[v17_9, v18_10]) (fun v19_11 w =>
 gdM (gd v15_8 false) (oM Tryz.prog (.unOp .not 4 (.tmp 0)) 4 [v19_11]) (fun v20_12 w =>
 oM Tryz.prog (.pick (.tmp 0) (.tmp 1) (.tmp 2)) 4 [v15_8, (.bool true), v20_12] (fun v21_13 w =>
 gdM (gd v21_13 false) (oM Tryz.prog (.load 26 (.tmp 0)) 26 [v4_1]) (fun v23_14 w =>
 gdM (gd v21_13 false) (oM Tryz.prog (.fieldAddr 74 (.tmp 0) 0) 0 [v7_2]) (fun v24_15 w =>
 gdM (gd v21_13 false) (oM Tryz.prog (.load 3 (.tmp 0)) 3 [v24_15]) (fun v25_16 w =>
 gdM (gd v21_13 false) (callM Tryz.prog 127 #[v23_14, v25_16]) (fun v26_17 w =>
 gdM (gd v21_13 false) (oM Tryz.prog (.unOp .not 4 (.tmp 0)) 4 [v26_17]) (fun v27_18 w =>
 oM Tryz.prog (.pick (.tmp 0) (.tmp 1) (.tmp 2)) 4 [v21_13, (.bool true), v27_18] (fun v28_19 w =>
 gdM (gd v28_19 false) (oM Tryz.prog (.load 26 (.tmp 0)) 26 [v4_1]) (fun v30_20 w =>
 gdM (gd v28_19 false) (oM Tryz.prog (.fieldAddr 74 (.tmp 0) 1) 0 [v7_2]) (fun v31_21 w =>
 gdM (gd v28_19 false) (oM Tryz.prog (.load 3 (.tmp 0)) 3 [v31_21]) (fun v32_22 w =>
 gdM (gd v28_19 false) (callM Tryz.prog 127 #[v30_20, v32_22]) (fun v33_23 w =>
 gdM (gd v28_19 false) (oM Tryz.prog (.unOp .not 4 (.tmp 0)) 4 [v33_23]) (fun v34_24 w =>
 oM Tryz.prog (.pick (.tmp 0) (.tmp 1) (.tmp 2)) 4 [v28_19, (.bool true), v34_24] (fun v35_25 w =>
 condM v35_25
 (K (.bool false) w)
 (heldM w (fun C_26 w => (((true : Bool) = true) ∧ (oH Tryz.prog (.load 23 (.tmp 0)) 23 [v9_5] C_26 (fun v36_27 =>
 oH Tryz.prog (.load 23 (.tmp 0)) 23 [v9_5] C_26 (fun v37_28 =>
 oH Tryz.prog (.fieldAddr 23 (.tmp 0) 2) 0 [v9_5] C_26 (fun v38_29 =>
 oH Tryz.prog (.load 3 (.tmp 0)) 3 [v38_29] C_26 (fun v39_30 =>
 oH Tryz.prog (.fieldAddr 74 (.tmp 0) 1) 0 [v7_2] C_26 (fun v40_31 =>
 oH Tryz.prog (.load 3 (.tmp 0)) 3 [v40_31] C_26 (fun v41_32 =>
 oH Tryz.prog (.load 23 (.tmp 0)) 23 [v9_5] C_26 (fun v43_33 =>
 pureH a1 C_26 (fun v44_34 =>
 oH Tryz.prog (.fieldAddr 74 (.tmp 0) 0) 0 [v7_2] C_26 (fun v45_35 =>
 oH Tryz.prog (.load 3 (.tmp 0)) 3 [v45_35] C_26 (fun v46_36 =>
 ∃ S_37 : World → World → Prop, ∃ R_38 : Value → World → Prop, (∀ v w w_1, S_37 w w_1 → R_38 v w → R_38 v w_1) ∧
 (∀ w, C_26 w → (callM Tryz.prog 46 #[v37_28, v39_30, v41_32] (fun v w_1 => C_26 w_1 ∧ S_37 w w_1 ∧ R_38 v w_1) w)) ∧
 (∃ R_39 : Value → World → Prop, (∀ v w w_1, S_37 w w_1 → R_39 v w → R_39 v w_1) ∧
 (∀ w, C_26 w → (callM Tryz.prog 46 #[v43_33, v44_34, v46_36] (fun v w_1 => C_26 w_1 ∧ S_37 w w_1 ∧ R_39 v w_1) w)) ∧
 (∀ w, C_26 w → ∀ v42_40, R_38 v42_40 w → ∀ v47_41, R_39 v47_41 w → (
 callM Tryz.prog 121 #[v36_27, v42_40, v47_41] (fun v48_42 w =>
 heldM w (fun C_43 w => (((true : Bool) = true) ∧ (oH Tryz.prog (.load 26 (.tmp 0)) 26 [v4_1] C_43 (fun v49_44 =>
 pureH a1 C_43 (fun v50_45 =>
 pureH v48_42 C_43 (fun v51_46 =>
 pureH a2 C_43 (fun v52_47 =>
 oH Tryz.prog (.fieldAddr 74 (.tmp 0) 0) 0 [v7_2] C_43 (fun v54_48 =>
 oH Tryz.prog (.load 3 (.tmp 0)) 3 [v54_48] C_43 (fun v55_49 =>
 ∃ S_50 : World → World → Prop, ∃ R_51 : Value → World → Prop, (∀ v w w_1, S_50 w w_1 → R_51 v w → R_51 v w_1) ∧
 (∀ w, C_43 w → (callM Tryz.prog 128 #[v49_44, v50_45, v51_46, v52_47] (fun v w_1 => C_43 w_1 ∧ S_50 w w_1 ∧ R_51 v w_1) w)) ∧
 (∀ w, C_43 w → ∀ v53_52, R_51 v53_52 w → (
 oM Tryz.prog (.binOp .eql 3 (.tmp 0) (.tmp 1) 3) 4 [v53_52, v55_49] (fun v56_53 w =>
 K v56_53 w) w)))))))))))) w)))))))))))))))))) w) w) w) w) w) w) w) w) w) w) w) w) w) w) w) w) w) w) w) w) w) w) w) w) w) w
theorem sh_47_eq (a0 : Value) (a1 : Value) (a2 : Value) (a3 : Value) (K : Value → World → Prop) (w : World) : sh_47 a0 a1 a2 a3 K w = code Tryz.prog (fun i => bif Nat.beq i 4 then .free [0, 1, 2, 3, 4, 5, 7, 8, 9, 10] [6, 11] [12, 13] else bif Nat.beq i 5 then .free [0, 1, 2, 3, 5, 6] [4] [7, 8] else 0) 57 (Tryz.f47.body.getD .skip) (slotsAt [a0, a1, a2, a3]) (retK Tryz.prog [.tmp 8] K) w := by kernel_rfl
theorem sh_47_ok {a0 a1 a2 a3 : Value} {K : Value → World → Prop} {w : World} (h : sh_47 a0 a1 a2 a3 K w) : callM Tryz.prog 47 #[a0, a1, a2, a3] K w :=
  calls_of_code (fun i => bif Nat.beq i 4 then .free [0, 1, 2, 3, 4, 5, 7, 8, 9, 10] [6, 11] [12, 13] else bif Nat.beq i 5 then .free [0, 1, 2, 3, 5, 6] [4] [7, 8] else 0) (fn := Tryz.f47) (rs := [.tmp 8]) Tryz.func47 rfl rfl (by kernel_rfl) (Nat.le_of_ble_eq_true rfl) ((sh_47_eq a0 a1 a2 a3 K w).mp h)
def sh_51 (a0 : Value) (K : Value → World → Prop) (w : World) : Prop :=
 oM Tryz.prog (.box 34 (.tmp 0)) 0 [a0] (fun v1_1 w =>
 oM Tryz.prog (.fieldAddr 34 (.tmp 0) 0) 0 [v1_1] (fun v9_2 w =>
 oM Tryz.prog (.load 30 (.tmp 0)) 30 [v9_2] (fun v10_3 w =>
 oM Tryz.prog (.call (Go.Call.mk (.builtin .len) #[(.tmp 0)] #[30])) 3 [v10_3] (fun v11_4 w =>
 oM Tryz.prog (.fieldAddr 34 (.tmp 0) 1) 0 [v1_1] (fun v12_5 w =>
 oM Tryz.prog (.load 29 (.tmp 0)) 29 [v12_5] (fun v13_6 w =>
 oM Tryz.prog (.call (Go.Call.mk (.builtin .len) #[(.tmp 0)] #[29])) 3 [v13_6] (fun v14_7 w =>
 oM Tryz.prog (.binOp .neq 3 (.tmp 0) (.tmp 1) 3) 4 [v11_4, v14_7] (fun v15_8 w =>
 condM v15_8
 (K (.tuple #[(.string ⟨#[]⟩), (.bool false)]) w)
 (oM Tryz.prog (.fieldAddr 34 (.tmp 0) 0) 0 [v1_1] (fun v16_9 w =>
 oM Tryz.prog (.load 30 (.tmp 0)) 30 [v16_9] (fun v17_10 w =>
 oM Tryz.prog (.call (Go.Call.mk (.builtin .len) #[(.tmp 0)] #[30])) 3 [v17_10] (fun v18_11 w =>
 oM Tryz.prog (.buildSlice 24 1 #[(0, (.tmp 0))]) 24 [v18_11] (fun v19_12 w =>
 oM Tryz.prog (.fieldAddr 34 (.tmp 0) 0) 0 [v1_1] (fun v20_13 w =>
 oM Tryz.prog (.load 30 (.tmp 0)) 30 [v20_13] (fun v21_14 w =>
 oM Tryz.prog (.call (Go.Call.mk (.builtin .len) #[(.tmp 0)] #[30])) 3 [v21_14] (fun v22_15 w =>
 loopM [undef, undef, (.string ⟨#[]⟩), (.bool false), v19_12, undef, undef, (.int .i64 0)] w (fun J_16 m_17 l_18 u_l_18 w0_l_18 => (fun w => (
 oM Tryz.prog (.binOp .lss 3 (.tmp 0) (.tmp 1) 3) 0 [(l_18.getD 7 undef), v22_15] (fun v24_19 w =>
 condM v24_19
 (oM Tryz.prog (.indexAddr 30 (.tmp 0) (.tmp 1)) 0 [v21_14, (l_18.getD 7 undef)] (fun v26_20 w =>
 oM Tryz.prog (.load 24 (.tmp 0)) 24 [v26_20] (fun v27_21 w =>
 oM Tryz.prog (.call (Go.Call.mk (.builtin .len) #[(.tmp 0)] #[24])) 3 [v27_21] (fun v29_22 w =>
 oM Tryz.prog (.fieldAddr 34 (.tmp 0) 1) 0 [v1_1] (fun v30_23 w =>
 oM Tryz.prog (.load 29 (.tmp 0)) 29 [v30_23] (fun v31_24 w =>
 oM Tryz.prog (.indexAddr 29 (.tmp 0) (.tmp 1)) 0 [v31_24, (l_18.getD 7 undef)] (fun v33_25 w =>
 oM Tryz.prog (.load 30 (.tmp 0)) 30 [v33_25] (fun v34_26 w =>
 oM Tryz.prog (.call (Go.Call.mk (.builtin .len) #[(.tmp 0)] #[30])) 3 [v34_26] (fun v35_27 w =>
 oM Tryz.prog (.binOp .neq 3 (.tmp 0) (.tmp 1) 3) 4 [v29_22, v35_27] (fun v36_28 w =>
 condM v36_28
 (K (.tuple #[(.string ⟨#[]⟩), (.bool false)]) w)
 (oM Tryz.prog (.call (Go.Call.mk (.builtin .len) #[(.tmp 0)] #[24])) 3 [v27_21] (fun v39_29 w =>
 oM Tryz.prog (.buildSlice 24 1 #[(0, (.tmp 0))]) 24 [v39_29] (fun v40_30 w =>
 oM Tryz.prog (.call (Go.Call.mk (.builtin .append) #[(.tmp 0), (.tmp 1)] #[24, 24])) 24 [(l_18.getD 4 undef), v40_30] (fun v41_31 w =>
 oM Tryz.prog (.call (Go.Call.mk (.builtin .len) #[(.tmp 0)] #[24])) 3 [v27_21] (fun v43_32 w =>
 loopM [(l_18.getD 5 undef), (l_18.getD 6 undef), v41_31, (.int .i64 0)] w (fun J_33 m_34 l_35 u_l_35 w0_l_35 => (fun w => (
 oM Tryz.prog (.binOp .lss 3 (.tmp 0) (.tmp 1) 3) 0 [(l_35.getD 3 undef), v43_32] (fun v45_36 w =>
 condM v45_36
 (oM Tryz.prog (.indexAddr 24 (.tmp 0) (.tmp 1)) 0 [v27_21, (l_35.getD 3 undef)] (fun v47_37 w =>
 oM Tryz.prog (.load 3 (.tmp 0)) 3 [v47_37] (fun v48_38 w =>
 heldM w (fun C_39 w => (pureH (l_35.getD 2 undef) C_39 (fun v49_40 =>
 pureH v48_38 C_39 (fun v50_41 =>
 oH Tryz.prog (.fieldAddr 34 (.tmp 0) 1) 0 [v1_1] C_39 (fun v51_42 =>
 oH Tryz.prog (.load 29 (.tmp 0)) 29 [v51_42] C_39 (fun v52_43 =>
 pureH (l_18.getD 7 undef) C_39 (fun v53_44 =>
 oH Tryz.prog (.indexAddr 29 (.tmp 0) (.tmp 1)) 0 [v52_43, v53_44] C_39 (fun v54_45 =>
 oH Tryz.prog (.load 30 (.tmp 0)) 30 [v54_45] C_39 (fun v55_46 =>
 pureH (l_35.getD 3 undef) C_39 (fun v56_47 =>
 oH Tryz.prog (.indexAddr 30 (.tmp 0) (.tmp 1)) 0 [v55_46, v56_47] C_39 (fun v57_48 =>
 oH Tryz.prog (.load 24 (.tmp 0)) 24 [v57_48] C_39 (fun v58_49 =>
 oH Tryz.prog (.call (Go.Call.mk (.builtin .len) #[(.tmp 0)] #[24])) 3 [v58_49] C_39 (fun v59_50 =>
 oH Tryz.prog (.fieldAddr 34 (.tmp 0) 1) 0 [v1_1] C_39 (fun v62_51 =>
 oH Tryz.prog (.load 29 (.tmp 0)) 29 [v62_51] C_39 (fun v63_52 =>
 pureH (l_18.getD 7 undef) C_39 (fun v64_53 =>
 oH Tryz.prog (.indexAddr 29 (.tmp 0) (.tmp 1)) 0 [v63_52, v64_53] C_39 (fun v65_54 =>
 oH Tryz.prog (.load 30 (.tmp 0)) 30 [v65_54] C_39 (fun v66_55 =>
 pureH (l_35.getD 3 undef) C_39 (fun v67_56 =>
 oH Tryz.prog (.indexAddr 30 (.tmp 0) (.tmp 1)) 0 [v66_55, v67_56] C_39 (fun v68_57 =>
 oH Tryz.prog (.load 24 (.tmp 0)) 24 [v68_57] C_39 (fun v69_58 =>
 oM Tryz.prog (.buildSlice 24 2 #[(0, (.tmp 0)), (1, (.tmp 1))]) 24 [v50_41, v59_50] (fun v60_59 w => C_39 w ∧ (
 oM Tryz.prog (.call (Go.Call.mk (.builtin .append) #[(.tmp 0), (.tmp 1)] #[24, 24])) 24 [v49_40, v60_59] (fun v61_60 w => C_39 w ∧ (
 oM Tryz.prog (.call (Go.Call.mk (.builtin .append) #[(.tmp 0), (.tmp 1)] #[24, 24])) 24 [v61_60, v69_58] (fun v70_61 w => C_39 w ∧ (
 C_39 w ∧ (oM Tryz.prog (.binOp .add 3 (.tmp 0) (.tmp 1) 3) 3 [(l_35.getD 3 undef), (.int .i64 1)] (fun v71_63 w =>
 J_33 [(l_35.getD 3 undef), v48_38, v70_61, v71_63] w ∧ m_34 [(l_35.getD 3 undef), v48_38, v70_61, v71_63] w < m_34 l_35 w0_l_35) w))) w)) w)) w)))))))))))))))))))))) w) w)
 (oM Tryz.prog (.binOp .add 3 (.tmp 0) (.tmp 1) 3) 3 [(l_18.getD 7 undef), (.int .i64 1)] (fun v72_64 w =>
 J_16 [(l_18.getD 7 undef), v27_21, (l_18.getD 2 undef), (l_18.getD 3 undef), (l_35.getD 2 undef), (l_35.getD 0 undef), (l_35.getD 1 undef), v72_64] w ∧ m_17 [(l_18.getD 7 undef), v27_21, (l_18.getD 2 undef), (l_18.getD 3 undef), (l_35.getD 2 undef), (l_35.getD 0 undef), (l_35.getD 1 undef), v72_64] w < m_17 l_18 w0_l_18) w)) w)) w0_l_35)) w) w) w) w)) w) w) w) w) w) w) w) w) w)
 (callM Tryz.prog 114 #[(l_18.getD 4 undef)] (fun v74_65 w =>
 K (.tuple #[v74_65, (.bool true)]) w) w)) w)) w0_l_18)) w) w) w) w) w) w) w)) w) w) w) w) w) w) w) w
theorem sh_51_eq (a0 : Value) (K : Value → World → Prop) (w : World) : sh_51 a0 K w = code Tryz.prog (fun _ => .tree (.look 0 (.look 1 (.look 2 (.look 3 (.look 4 (.look 5 (.look 6 (.look 7 (.look 8 (.look 9 (.look 10 (.look 13 (.look 14 (.look 15 (.look 16 (.look 17 (.look 18 (.look 19 (.look 20 (.only 11 (.only 12 (.only 21 (.only 22 (.done))))))))))))))))))))))))) 75 (Tryz.f51.body.getD .skip) (slotsAt [a0]) (retK Tryz.prog [.tmp 2, .tmp 3] K) w := by kernel_rfl
theorem sh_51_ok {a0 : Value} {K : Value → World → Prop} {w : World} (h : sh_51 a0 K w) : callM Tryz.prog 51 #[a0] K w :=
  calls_of_code (fun _ => .tree (.look 0 (.look 1 (.look 2 (.look 3 (.look 4 (.look 5 (.look 6 (.look 7 (.look 8 (.look 9 (.look 10 (.look 13 (.look 14 (.look 15 (.look 16 (.look 17 (.look 18 (.look 19 (.look 20 (.only 11 (.only 12 (.only 21 (.only 22 (.done))))))))))))))))))))))))) (fn := Tryz.f51) (rs := [.tmp 2, .tmp 3]) Tryz.func51 rfl rfl (by kernel_rfl) (Nat.le_of_ble_eq_true rfl) ((sh_51_eq a0 K w).mp h)
def sh_134 (a0 : Value) (K : Value → World → Prop) (w : World) : Prop :=
 oM Tryz.prog (.nilCheck (.tmp 0)) 0 [a0] (fun v5_1 w =>
 oM Tryz.prog (.fieldAddr 160 (.tmp 0) 0) 0 [v5_1] (fun v6_2 w =>
 oM Tryz.prog (.load 24 (.tmp 0)) 24 [v6_2] (fun v7_3 w =>
 oM Tryz.prog (.call (Go.Call.mk (.builtin .len) #[(.tmp 0)] #[24])) 3 [v7_3] (fun v8_4 w =>
 oM Tryz.prog (.binOp .eql 3 (.tmp 0) (.const (.int .i64 0)) 3) 4 [v8_4] (fun v9_5 w =>
 condM v9_5
 (oM Tryz.prog (.nilCheck (.tmp 0)) 0 [a0] (fun v11_6 w =>
 oM Tryz.prog (.fieldAddr 160 (.tmp 0) 1) 0 [v11_6] (fun v12_7 w =>
 oM Tryz.prog (.store 4 (.tmp 0) (.tmp 1)) 0 [v12_7, (.bool true)] (fun _ w =>
 K (.int .i64 0) w) w) w) w)
 (oM Tryz.prog (.nilCheck (.tmp 0)) 0 [a0] (fun v14_8 w =>
 oM Tryz.prog (.fieldAddr 160 (.tmp 0) 0) 0 [v14_8] (fun v15_9 w =>
 oM Tryz.prog (.load 24 (.tmp 0)) 24 [v15_9] (fun v16_10 w =>
 oM Tryz.prog (.indexAddr 24 (.tmp 0) (.tmp 1)) 0 [v16_10, (.int .i64 0)] (fun v17_11 w =>
 oM Tryz.prog (.load 3 (.tmp 0)) 3 [v17_11] (fun v18_12 w =>
 oM Tryz.prog (.nilCheck (.tmp 0)) 0 [a0] (fun v21_13 w =>
 oM Tryz.prog (.fieldAddr 160 (.tmp 0) 0) 0 [v21_13] (fun v22_14 w =>
 oM Tryz.prog (.load 24 (.tmp 0)) 24 [v22_14] (fun v23_15 w =>
 oM Tryz.prog (.slice 24 (.tmp 0) (some (.tmp 1)) none none) 24 [v23_15, (.int .i64 1)] (fun v24_16 w =>
 oM Tryz.prog (.nilCheck (.tmp 0)) 0 [a0] (fun v25_17 w =>
 oM Tryz.prog (.fieldAddr 160 (.tmp 0) 0) 0 [v25_17] (fun v26_18 w =>
 oM Tryz.prog (.store 24 (.tmp 0) (.tmp 1)) 0 [v26_18, v24_16] (fun _ w =>
 K v18_12 w) w) w) w) w) w) w) w) w) w) w) w) w)) w) w) w) w) w
theorem sh_134_eq (a0 : Value) (K : Value → World → Prop) (w : World) : sh_134 a0 K w = code Tryz.prog (fun _ => 0) 28 (Tryz.f134.body.getD .skip) (slotsAt [a0]) (retK Tryz.prog [.tmp 2] K) w := by kernel_rfl
theorem sh_134_ok {a0 : Value} {K : Value → World → Prop} {w : World} (h : sh_134 a0 K w) : callM Tryz.prog 134 #[a0] K w :=
  calls_of_code (fun _ => 0) (fn := Tryz.f134) (rs := [.tmp 2]) Tryz.func134 rfl rfl (by kernel_rfl) (Nat.le_of_ble_eq_true rfl) ((sh_134_eq a0 K w).mp h)
def sh_133 (a0 : Value) (K : Value → World → Prop) (w : World) : Prop :=
 callM Tryz.prog 134 #[a0] (fun v5_1 w =>
 oM Tryz.prog (.binOp .lss 3 (.tmp 0) (.tmp 1) 3) 4 [v5_1, (.int .i64 0)] (fun v7_2 w =>
 gdM (gd v7_2 false) (pureM v5_1) (fun v9_3 w =>
 gdM (gd v7_2 false) (pureM a0) (fun v10_4 w =>
 gdM (gd v7_2 false) (oM Tryz.prog (.nilCheck (.tmp 0)) 0 [v10_4]) (fun v11_5 w =>
 gdM (gd v7_2 false) (oM Tryz.prog (.fieldAddr 160 (.tmp 0) 0) 0 [v11_5]) (fun v12_6 w =>
 gdM (gd v7_2 false) (oM Tryz.prog (.load 24 (.tmp 0)) 24 [v12_6]) (fun v13_7 w =>
 gdM (gd v7_2 false) (oM Tryz.prog (.call (Go.Call.mk (.builtin .len) #[(.tmp 0)] #[24])) 3 [v13_7]) (fun v14_8 w =>
 gdM (gd v7_2 false) (oM Tryz.prog (.binOp .gtr 3 (.tmp 0) (.tmp 1) 3) 4 [v9_3, v14_8]) (fun v15_9 w =>
 oM Tryz.prog (.pick (.tmp 0) (.tmp 1) (.tmp 2)) 4 [v7_2, (.bool true), v15_9] (fun v16_10 w =>
 condM v16_10
 (oM Tryz.prog (.nilCheck (.tmp 0)) 0 [a0] (fun v18_11 w =>
 oM Tryz.prog (.fieldAddr 160 (.tmp 0) 1) 0 [v18_11] (fun v19_12 w =>
 oM Tryz.prog (.store 4 (.tmp 0) (.tmp 1)) 0 [v19_12, (.bool true)] (fun _ w =>
 K (.int .i64 0) w) w) w) w)
 (K v5_1 w)) w) w) w) w) w) w) w) w) w) w
theorem sh_133_eq (a0 : Value) (K : Value → World → Prop) (w : World) : sh_133 a0 K w = code Tryz.prog (fun _ => 0) 21 (Tryz.f133.body.getD .skip) (slotsAt [a0]) (retK Tryz.prog [.tmp 2] K) w := by kernel_rfl
theorem sh_133_ok {a0 : Value} {K : Value → World → Prop} {w : World} (h : sh_133 a0 K w) : callM Tryz.prog 133 #[a0] K w :=
  calls_of_code (fun _ => 0) (fn := Tryz.f133) (rs := [.tmp 2]) Tryz.func133 rfl rfl (by kernel_rfl) (Nat.le_of_ble_eq_true rfl) ((sh_133_eq a0 K w).mp h)
def sh_52 (a0 : Value) (K : Value → World → Prop) (w : World) : Prop :=
 oM Tryz.prog (.alloc 34) 0 [] (fun v2_1 w =>
 callM Tryz.prog 130 #[a0] (fun v11_2 w =>
 callM Tryz.prog 131 #[v11_2] (fun v13_3 w =>
 oM Tryz.prog (.build 160 #[(0, (.tmp 0))]) 160 [v13_3] (fun v14_4 w =>
 oM Tryz.prog (.box 160 (.tmp 0)) 157 [v14_4] (fun v15_5 w =>
 callM Tryz.prog 132 #[v11_2] (fun v17_6 w =>
 oM Tryz.prog (.unOp .not 4 (.tmp 0)) 4 [v17_6] (fun v18_7 w =>
 condM v18_7
 (oM Tryz.prog (.build 34 #[]) 34 [] (fun v19_8 w =>
 oM Tryz.prog (.store 34 (.tmp 0) (.tmp 1)) 0 [v2_1, v19_8] (fun _ w =>
 ∃ r_9, (do loadVar 34 (← asAddr v2_1) : Sem Value).run Tryz.prog w = .ok r_9 w ∧ K (.tuple #[r_9, (.bool false)]) w) w) w)
 (oM Tryz.prog (.alloc 34) 0 [] (fun v6_10 w =>
 callM Tryz.prog 133 #[v15_5] (fun v21_11 w =>
 loopM [undef, undef, undef, (.int .i64 0)] w (fun J_12 m_13 l_14 u_l_14 w0_l_14 => (fun w => (
 oM Tryz.prog (.binOp .lss 3 (.tmp 0) (.tmp 1) 3) 4 [(l_14.getD 3 undef), v21_11] (fun v23_15 w =>
 condM v23_15
 (callM Tryz.prog 133 #[v15_5] (fun v25_16 w =>
 loopM [(.slice none 0 0), (l_14.getD 2 undef), (.slice none 0 0), (.int .i64 0)] w (fun J_17 m_18 l_19 u_l_19 w0_l_19 => (fun w => (
 oM Tryz.prog (.binOp .lss 3 (.tmp 0) (.tmp 1) 3) 4 [(l_19.getD 3 undef), v25_16] (fun v27_20 w =>
 condM v27_20
 (callM Tryz.prog 134 #[v15_5] (fun v30_21 w =>
 oM Tryz.prog (.buildSlice 24 1 #[(0, (.tmp 0))]) 24 [v30_21] (fun v31_22 w =>
 oM Tryz.prog (.call (Go.Call.mk (.builtin .append) #[(.tmp 0), (.tmp 1)] #[24, 24])) 24 [(l_19.getD 0 undef), v31_22] (fun v32_23 w =>
 callM Tryz.prog 133 #[v15_5] (fun v34_24 w =>
 oM Tryz.prog (.nilCheck (.tmp 0)) 0 [v15_5] (fun v37_25 w =>
 oM Tryz.prog (.fieldAddr 160 (.tmp 0) 0) 0 [v37_25] (fun v38_26 w =>
 oM Tryz.prog (.load 24 (.tmp 0)) 24 [v38_26] (fun v39_27 w =>
 oM Tryz.prog (.slice 24 (.tmp 0) none (some (.tmp 1)) none) 24 [v39_27, v34_24] (fun v41_28 w =>
 callM Tryz.prog 96 #[v41_28] (fun v42_29 w =>
 oM Tryz.prog (.buildSlice 30 1 #[(0, (.tmp 0))]) 30 [v42_29] (fun v43_30 w =>
 oM Tryz.prog (.call (Go.Call.mk (.builtin .append) #[(.tmp 0), (.tmp 1)] #[30, 30])) 30 [(l_19.getD 2 undef), v43_30] (fun v44_31 w =>
 oM Tryz.prog (.nilCheck (.tmp 0)) 0 [v15_5] (fun v47_32 w =>
 oM Tryz.prog (.fieldAddr 160 (.tmp 0) 0) 0 [v47_32] (fun v48_33 w =>
 oM Tryz.prog (.load 24 (.tmp 0)) 24 [v48_33] (fun v49_34 w =>
 oM Tryz.prog (.slice 24 (.tmp 0) (some (.tmp 1)) none none) 24 [v49_34, v34_24] (fun v51_35 w =>
 oM Tryz.prog (.nilCheck (.tmp 0)) 0 [v15_5] (fun v52_36 w =>
 oM Tryz.prog (.fieldAddr 160 (.tmp 0) 0) 0 [v52_36] (fun v53_37 w =>
 oM Tryz.prog (.store 24 (.tmp 0) (.tmp 1)) 0 [v53_37, v51_35] (fun _ w =>
 oM Tryz.prog (.binOp .add 3 (.tmp 0) (.tmp 1) 3) 3 [(l_19.getD 3 undef), (.int .i64 1)] (fun v54_38 w =>
 J_17 [v32_23, v34_24, v44_31, v54_38] w ∧ m_18 [v32_23, v34_24, v44_31, v54_38] w < m_18 l_19 w0_l_19) w) w) w) w) w) w) w) w) w) w) w) w) w) w) w) w) w) w) w)
 (heldM w (fun C_39 w => (((true : Bool) = true) ∧ (oH Tryz.prog (.fieldAddr 34 (.tmp 0) 0) 0 [v6_10] C_39 (fun v55_40 =>
 oH Tryz.prog (.load 30 (.tmp 0)) 30 [v55_40] C_39 (fun v56_41 =>
 pureH (l_19.getD 0 undef) C_39 (fun v57_42 =>
 oH Tryz.prog (.fieldAddr 34 (.tmp 0) 1) 0 [v6_10] C_39 (fun v60_43 =>
 oH Tryz.prog (.load 29 (.tmp 0)) 29 [v60_43] C_39 (fun v61_44 =>
 pureH (l_19.getD 2 undef) C_39 (fun v62_45 =>
 ∃ S_46 : World → World → Prop, ∃ R_47 : Value → World → Prop, (∀ v w w_1, S_46 w w_1 → R_47 v w → R_47 v w_1) ∧
 (∀ w, C_39 w → (oM Tryz.prog (.buildSlice 30 1 #[(0, (.tmp 0))]) 30 [v57_42] (fun v w_1 => C_39 w_1 ∧ S_46 w w_1 ∧ R_47 v w_1) w)) ∧
 (∃ R_48 : Value → World → Prop, (∀ v w w_1, S_46 w w_1 → R_48 v w → R_48 v w_1) ∧
 (∀ w, C_39 w → ∀ v58_49, R_47 v58_49 w → (oM Tryz.prog (.call (Go.Call.mk (.builtin .append) #[(.tmp 0), (.tmp 1)] #[30, 30])) 30 [v56_41, v58_49] (fun v w_1 => C_39 w_1 ∧ S_46 w w_1 ∧ R_48 v w_1) w)) ∧
 (∃ R_50 : Value → World → Prop, (∀ v w w_1, S_46 w w_1 → R_50 v w → R_50 v w_1) ∧
 (∀ w, C_39 w → (oM Tryz.prog (.buildSlice 29 1 #[(0, (.tmp 0))]) 29 [v62_45] (fun v w_1 => C_39 w_1 ∧ S_46 w w_1 ∧ R_50 v w_1) w)) ∧
 (∃ R_51 : Value → World → Prop, (∀ v w w_1, S_46 w w_1 → R_51 v w → R_51 v w_1) ∧
 (∀ w, C_39 w → ∀ v63_52, R_50 v63_52 w → (oM Tryz.prog (.call (Go.Call.mk (.builtin .append) #[(.tmp 0), (.tmp 1)] #[29, 29])) 29 [v61_44, v63_52] (fun v w_1 => C_39 w_1 ∧ S_46 w w_1 ∧ R_51 v w_1) w)) ∧
 (∃ R_53 : Value → World → Prop, (∀ v w w_1, S_46 w w_1 → R_53 v w → R_53 v w_1) ∧
 (∀ w, C_39 w → (oM Tryz.prog (.fieldAddr 34 (.tmp 0) 0) 0 [v6_10] (fun v w_1 => C_39 w_1 ∧ S_46 w w_1 ∧ R_53 v w_1) w)) ∧
 (∀ w, C_39 w → ∀ v58_54, R_47 v58_54 w → ∀ v59_55, R_48 v59_55 w → ∀ v63_56, R_50 v63_56 w → ∀ v64_57, R_51 v64_57 w → ∀ v65_58, R_53 v65_58 w → (
 oM Tryz.prog (.store 30 (.tmp 0) (.tmp 1)) 0 [v65_58, v59_55] (fun _ w =>
 oM Tryz.prog (.fieldAddr 34 (.tmp 0) 1) 0 [v6_10] (fun v66_59 w =>
 oM Tryz.prog (.store 29 (.tmp 0) (.tmp 1)) 0 [v66_59, v64_57] (fun _ w =>
 oM Tryz.prog (.binOp .add 3 (.tmp 0) (.tmp 1) 3) 3 [(l_14.getD 3 undef), (.int .i64 1)] (fun v67_60 w =>
 J_12 [(l_19.getD 0 undef), (l_19.getD 2 undef), (l_19.getD 1 undef), v67_60] w ∧ m_13 [(l_19.getD 0 undef), (l_19.getD 2 undef), (l_19.getD 1 undef), v67_60] w < m_13 l_14 w0_l_14) w) w) w) w))))))))))))))))) w)) w0_l_19)) w)
 (oM Tryz.prog (.nilCheck (.tmp 0)) 0 [v15_5] (fun v69_61 w =>
 oM Tryz.prog (.fieldAddr 160 (.tmp 0) 1) 0 [v69_61] (fun v70_62 w =>
 oM Tryz.prog (.load 4 (.tmp 0)) 4 [v70_62] (fun v71_63 w =>
 gdM (gd v71_63 false) (pureM v15_5) (fun v73_64 w =>
 gdM (gd v71_63 false) (oM Tryz.prog (.nilCheck (.tmp 0)) 0 [v73_64]) (fun v74_65 w =>
 gdM (gd v71_63 false) (oM Tryz.prog (.fieldAddr 160 (.tmp 0) 0) 0 [v74_65]) (fun v75_66 w =>
 gdM (gd v71_63 false) (oM Tryz.prog (.load 24 (.tmp 0)) 24 [v75_66]) (fun v76_67 w =>
 gdM (gd v71_63 false) (oM Tryz.prog (.call (Go.Call.mk (.builtin .len) #[(.tmp 0)] #[24])) 3 [v76_67]) (fun v77_68 w =>
 gdM (gd v71_63 false) (oM Tryz.prog (.binOp .gtr 3 (.tmp 0) (.tmp 1) 3) 4 [v77_68, (.int .i64 0)]) (fun v78_69 w =>
 oM Tryz.prog (.pick (.tmp 0) (.tmp 1) (.tmp 2)) 4 [v71_63, (.bool true), v78_69] (fun v79_70 w =>
 condM v79_70
 (oM Tryz.prog (.build 34 #[]) 34 [] (fun v80_71 w =>
 oM Tryz.prog (.store 34 (.tmp 0) (.tmp 1)) 0 [v2_1, v80_71] (fun _ w =>
 ∃ r_72, (do loadVar 34 (← asAddr v2_1) : Sem Value).run Tryz.prog w = .ok r_72 w ∧ K (.tuple #[r_72, (.bool false)]) w) w) w)
 (oM Tryz.prog (.load 34 (.tmp 0)) 34 [v6_10] (fun v81_73 w =>
 oM Tryz.prog (.store 34 (.tmp 0) (.tmp 1)) 0 [v2_1, v81_73] (fun _ w =>
 ∃ r_74, (do loadVar 34 (← asAddr v2_1) : Sem Value).run Tryz.prog w = .ok r_74 w ∧ K (.tuple #[r_74, (.bool true)]) w) w) w)) w) w) w) w) w) w) w) w) w) w)) w)) w0_l_14)) w) w)) w) w) w) w) w) w) w
theorem sh_52_eq (a0 : Value) (K : Value → World → Prop) (w : World) : sh_52 a0 K w = code Tryz.prog (fun _ => .free [0, 1, 2, 5, 6, 7] [3, 4, 8, 9, 10] [11, 12, 13]) 82 (Tryz.f52.body.getD .skip) (slotsAt [a0]) (retK Tryz.prog [.cell 2 34, .tmp 3] K) w := by kernel_rfl
theorem sh_52_ok {a0 : Value} {K : Value → World → Prop} {w : World} (h : sh_52 a0 K w) : callM Tryz.prog 52 #[a0] K w :=
  calls_of_code (fun _ => .free [0, 1, 2, 5, 6, 7] [3, 4, 8, 9, 10] [11, 12, 13]) (fn := Tryz.f52) (rs := [.cell 2 34, .tmp 3]) Tryz.func52 rfl rfl (by kernel_rfl) (Nat.le_of_ble_eq_true rfl) ((sh_52_eq a0 K w).mp h)
end Go.Proofs
namespace PrSpec
open FdSpec TkSpec CodeSpec FdPoly GrLaw
section
variable {q root : Int} {bs : List Bool} {ds : List Int}
end
end PrSpec
namespace PrSpec
open FdSpec TkSpec CodeSpec FdPoly GrLaw
section
variable {s : Stp} {c : Clm} {d : Int} {n vs : List Int}
end
end PrSpec
namespace PrSpec
open FdSpec TkSpec CodeSpec FdPoly GrLaw
section
variable {s : Stp} {c : Cls} {ds D : List Int} {ns : List (List Int)} {ks : List Knw} {root : Int}
end
end PrSpec
namespace PrSpec
open FdSpec TkSpec CodeSpec FdPoly GrLaw
end PrSpec
namespace PrSpec
open FdSpec TkSpec CodeSpec FdPoly GrLaw
end PrSpec
namespace PrSpec
open FdSpec TkSpec CodeSpec FdPoly GrLaw
end PrSpec
namespace PrSpec
open FdSpec TkSpec CodeSpec FdPoly GrLaw
end PrSpec
namespace PrSpec
open FdSpec TkSpec CodeSpec FdPoly GrLaw
end PrSpec
namespace PrSpec
open FdSpec TkSpec CodeSpec FdPoly GrLaw
def chalM (s : Stp) (pub a : Int) (msg : Bytes) : Int := numberM (encText msg ++ encNums [pub, a]) s.g.Q
theorem sign_core {g : Grp} (h : Gv g) {x k S C : Int} (e : S % g.Q = (k + C * x) % g.Q) : overG g (powerG g g.G S) (powerG g (powerG g g.G x) C) = powerG g g.G k := by
  have hG := El.gen h
  have hx : El g (powerG g g.G x) := (hG.ex x).cg (powerG_cg h _ _)
  have hb : El g (powerG g (powerG g g.G x) C) := (hx.ex C).cg (powerG_cg h _ _)
  have hu := hb.unit h
  have h1 := overG_cg h (powerG g g.G S) hu
  have hq : 0 < g.Q := by have := h.q0; omega
  have h2 : Cg g.P (powerG g (powerG g g.G x) C) (Ex g g.G (C * x)) := by
    refine (powerG_cg h _ _).trans ((Ex_cg (powerG_cg h _ _) C).trans ?_)
    have := Ex_mul h hG x C
    rw [Int.mul_comm] at this
    exact this.symm
  have h3 : Cg g.P (powerG g g.G k * powerG g (powerG g g.G x) C) (powerG g g.G S) := by
    refine ((powerG_cg h _ _).mul h2).trans ((Ex_add h hG k (C * x)).symm.trans ?_)
    rw [← Ex_cong e]
    exact (powerG_cg h _ _).symm
  exact (Cg.cancel hu (h1.trans h3.symm)).eq (overG_range h _ _) (powerG_range h _ _)
def signM (s : Stp) (x k : Int) (msg : Bytes) : (Int × Int) × Bool :=
  if validS s && exponentM s x && exponentM s k then
    ((chalM s (powerG s.g s.g.G x) (powerG s.g s.g.G k) msg, addM s.g.Q k (mulM s.g.Q (chalM s (powerG s.g s.g.G x) (powerG s.g s.g.G k) msg) x)), true)
  else ((0, 0), false)
def signedM (s : Stp) (pub : Int) (msg : Bytes) (c z : Int) : Bool :=
  validS s && elemG s.g pub && exponentM s c && exponentM s z && decide (chalM s pub (overG s.g (powerG s.g s.g.G z) (powerG s.g pub c)) msg = c)
theorem gv_setup {s : Stp} (h : validS s = true) : Gv s.g := by
  unfold validS at h
  simp only [Bool.and_eq_true] at h
  exact gv_of h.1.1.1.1
theorem forth_mod {q k c x : Int} (hq : okN q) : addM q k (mulM q c x) % q = (k + c * x) % q := by
  unfold addM mulM
  simp only [if_pos hq]
  rw [Int.emod_emod_of_dvd _ (Int.dvd_refl q), Int.add_emod_emod]
theorem forth_back {q k c x : Int} (hq : okN q) (hk : 0 ≤ k ∧ k < q) : subM q (addM q k (mulM q c x)) (mulM q c x) = k := by
  unfold subM addM mulM
  simp only [if_pos hq]
  rw [Int.emod_sub_emod, Int.add_sub_cancel]
  exact Int.emod_eq_of_lt hk.1 hk.2
theorem numStep_in {n : Int} (hn : okN n) : ∀ (l : List UInt8) (o : Int), 0 ≤ o ∧ o < n → 0 ≤ l.foldl (numStep n) o ∧ l.foldl (numStep n) o < n
  | [], o, h => h
  | b :: l, o, h => numStep_in hn l _ (addM_range _ _ _ hn)
theorem numberM_in {n : Int} (hn : okN n) (s : Bytes) : 0 ≤ numberM s n ∧ numberM s n < n := by
  unfold numberM
  rw [if_pos hn]
  exact numStep_in hn _ 0 ⟨by omega, by have := hn.1; omega⟩
theorem elem_of {g : Grp} (hv : validG g = true) {x : Int} (hx : El g x) (hr : 0 ≤ x ∧ x < g.P) : elemG g x = true := by
  have h := gv_of hv
  have hq := h.q0
  have hp := h.p
  have e := hx.emod
  rw [Int.emod_eq_of_lt (show (0 : Int) ≤ 1 by omega) (by omega)] at e
  have h0 : x ≠ 0 := by
    rintro rfl
    rw [Int.zero_pow (by omega)] at e
    simp at e
  unfold elemG pw
  simp only [Bool.and_eq_true, decide_eq_true_eq]
  exact ⟨⟨⟨by omega, hr.2⟩, hv⟩, e⟩
theorem elem_power {g : Grp} (hv : validG g = true) {x : Int} (hx : El g x) (k : Int) : elemG g (powerG g x k) = true :=
  elem_of hv ((hx.ex k).cg (powerG_cg (gv_of hv) _ _)) (powerG_range (gv_of hv) _ _)
theorem expo_iff {s : Stp} {n : Int} : exponentM s n = true ↔ 0 ≤ n ∧ n < s.g.Q := by unfold exponentM; simp
theorem sign_signed {s : Stp} {x k : Int} {msg : Bytes} (h : (signM s x k msg).2 = true) :
    signedM s (powerG s.g s.g.G x) msg (signM s x k msg).1.1 (signM s x k msg).1.2 = true ∧ subM s.g.Q (signM s x k msg).1.2 (mulM s.g.Q (signM s x k msg).1.1 x) = k := by
  unfold signM at h ⊢
  split at h
  · rename_i hc
    rw [if_pos hc]
    simp only [Bool.and_eq_true] at hc
    have hv := hc.1.1
    have hg := gv_setup hv
    have hvg : validG s.g = true := by
      unfold validS at hv
      simp only [Bool.and_eq_true] at hv
      exact hv.1.1.1.1
    have hk := expo_iff.1 hc.2
    refine ⟨?_, forth_back hg.okQ hk⟩
    unfold signedM
    dsimp only
    rw [sign_core hg (k := k) (forth_mod hg.okQ)]
    simp only [hv, elem_power hvg (El.gen hg) x, expo_iff.2 (numberM_in hg.okQ _), expo_iff.2 (addM_range _ _ _ hg.okQ), chalM, decide_true, Bool.and_self]
  · cases h
end PrSpec
namespace PrSpec
open FdSpec TkSpec CodeSpec FdPoly GrLaw
end PrSpec
namespace PrSpec
open FdSpec TkSpec CodeSpec FdPoly GrLaw
structure Rw where
  left : List Int
  bad : Bool
def nextR (r : Rw) : Int × Rw := match r.left with
  | [] => (0, ⟨[], true⟩)
  | n :: l => (n, ⟨l, r.bad⟩)
def countR (r : Rw) : Nat × Rw :=
  if (nextR r).1 < 0 ∨ ((nextR r).2.left.length : Int) < (nextR r).1 then (0, ⟨(nextR r).2.left, true⟩) else ((nextR r).1.toNat, (nextR r).2)
def takeR (n : Nat) (r : Rw) : List Int × Rw := (r.left.take n, ⟨r.left.drop n, r.bad⟩)
def itemsR : Nat → Rw → (List Int × List (List Int)) × Rw
  | 0, r => (([], []), r)
  | k + 1, r =>
    let d := nextR r
    let n := countR d.2
    let a := takeR n.1 n.2
    let t := itemsR k a.2
    ((d.1 :: t.1.1, a.1 :: t.1.2), t.2)
def clausesR : Nat → Rw → (List (List Int) × List (List (List Int))) × Rw
  | 0, r => (([], []), r)
  | k + 1, r =>
    let n := countR r
    let i := itemsR n.1 n.2
    let t := clausesR k i.2
    ((i.1.1 :: t.1.1, i.1.2 :: t.1.2), t.2)
def itemL : List Int → List (List Int) → List Int
  | d :: ds, a :: asx => d :: (a.length : Int) :: (a ++ itemL ds asx)
  | _, _ => []
def clauseL : List (List Int) → List (List (List Int)) → List Int
  | d :: ds, a :: asx => (d.length : Int) :: (itemL d a ++ clauseL ds asx)
  | _, _ => []
def evenL : List (List Int) → List (List (List Int)) → Bool
  | d :: ds, a :: asx => decide (d.length = a.length) && evenL ds asx
  | [], [] => true
  | _, _ => false
theorem count_cons {n : Nat} {l : List Int} {b : Bool} (h : n ≤ l.length) : countR ⟨(n : Int) :: l, b⟩ = (n, ⟨l, b⟩) := by
  unfold countR nextR
  dsimp only
  rw [if_neg (by omega), Int.toNat_natCast]
theorem items_enc : ∀ (ds : List Int) (asx : List (List Int)) (t : List Int) (b : Bool), ds.length = asx.length → itemsR ds.length ⟨itemL ds asx ++ t, b⟩ = ((ds, asx), ⟨t, b⟩)
  | [], [], _, _, _ => rfl
  | [], _ :: _, _, _, h => by simp at h
  | _ :: _, [], _, _, h => by simp at h
  | d :: ds, a :: asx, t, b, h => by
    have ih := items_enc ds asx t b (by simpa using h)
    have e : countR ⟨(a.length : Int) :: (a ++ itemL ds asx ++ t), b⟩ = (a.length, ⟨a ++ itemL ds asx ++ t, b⟩) := count_cons (by simp)
    have e2 : nextR ⟨itemL (d :: ds) (a :: asx) ++ t, b⟩ = (d, ⟨(a.length : Int) :: (a ++ itemL ds asx ++ t), b⟩) := rfl
    have e3 : takeR a.length ⟨a ++ itemL ds asx ++ t, b⟩ = (a, ⟨itemL ds asx ++ t, b⟩) := by
      unfold takeR; simp only [List.append_assoc, List.take_left, List.drop_left]
    simp only [List.length_cons, itemsR, e2, e, e3, ih]
theorem itemL_len : ∀ (ds : List Int) (asx : List (List Int)), ds.length = asx.length → ds.length ≤ (itemL ds asx).length
  | [], _, _ => by simp
  | _ :: _, [], h => by simp at h
  | d :: ds, a :: asx, h => by
    have := itemL_len ds asx (by simpa using h)
    simp only [itemL, List.length_cons, List.length_append]
    omega
theorem clauses_enc : ∀ (ds : List (List Int)) (asx : List (List (List Int))) (t : List Int) (b : Bool), evenL ds asx = true → clausesR ds.length ⟨clauseL ds asx ++ t, b⟩ = ((ds, asx), ⟨t, b⟩)
  | [], [], _, _, _ => rfl
  | [], _ :: _, _, _, h => by simp [evenL] at h
  | _ :: _, [], _, _, h => by simp [evenL] at h
  | d :: ds, a :: asx, t, b, h => by
    simp only [evenL, Bool.and_eq_true, decide_eq_true_eq] at h
    have ih := clauses_enc ds asx t b h.2
    have e : countR ⟨clauseL (d :: ds) (a :: asx) ++ t, b⟩ = (d.length, ⟨itemL d a ++ (clauseL ds asx ++ t), b⟩) := by
      have := count_cons (n := d.length) (l := itemL d a ++ (clauseL ds asx ++ t)) (b := b) (by have := itemL_len d a h.1; simp; omega)
      simpa [clauseL] using this
    simp only [List.length_cons, clausesR, e, items_enc d a _ b h.1, ih]
end PrSpec
namespace PrSpec
open FdSpec TkSpec CodeSpec FdPoly GrLaw
structure Bt where
  x : Int
  b : Int
  v : Int
def sumB (f : Bt → Int) : Nat → List Bt → Int
  | _, [] => 0
  | k, t :: l => f t * 2 ^ k + sumB f (k + 1) l
def wtL : Nat → List Bt → List (Int × Int)
  | _, [] => []
  | k, t :: l => (t.x, 2 ^ k) :: wtL (k + 1) l
theorem weigh_cg {g : Grp} (h : Gv g) {bl : Int} (hb : El g bl) : ∀ (l : List Bt) (k : Nat), (∀ t ∈ l, Cg g.P t.x (Ex g g.G t.b * Ex g bl t.v)) →
    Cg g.P (PX g (wtL k l)) (Ex g g.G (sumB Bt.b k l) * Ex g bl (sumB Bt.v k l))
  | [], k, _ => by simp only [wtL, PX, sumB, Ex_zero]; exact Cg.refl _ _
  | t :: l, k, ht => by
    have ih := weigh_cg h hb l (k + 1) (fun t' h' => ht t' (by simp [h']))
    have hG := El.gen h
    have h1 : Cg g.P (Ex g t.x (2 ^ k)) (Ex g g.G (t.b * 2 ^ k) * Ex g bl (t.v * 2 ^ k)) := by
      refine (Ex_cg (ht t (by simp)) _).trans ?_
      have e1 := Ex_mul h hG t.b (2 ^ k)
      have e2 := Ex_mul h hb t.v (2 ^ k)
      refine Cg.trans ?_ (e1.mul e2).symm
      unfold Ex
      rw [Int.mul_pow]
      exact Cg.refl _ _
    simp only [wtL, PX, sumB]
    have h2 := h1.mul ih
    refine h2.trans ?_
    have e3 := (Ex_add h hG (t.b * 2 ^ k) (sumB Bt.b (k + 1) l)).mul (Ex_add h hb (t.v * 2 ^ k) (sumB Bt.v (k + 1) l))
    refine Cg.trans ?_ e3.symm
    have : ∀ a b c d : Int, a * b * (c * d) = a * c * (b * d) := fun a b c d => by grind
    rw [this]
    exact Cg.refl _ _
end PrSpec
namespace PrSpec
open FdSpec TkSpec CodeSpec FdPoly GrLaw
def commitM (s : Stp) (v r : Int) : Int := if validS s then (prodG s.g [s.g.G, s.blind] [v, r]).1 else 0
def pows (n : Nat) : List Int := (List.range n).map fun k => (2 : Int) ^ k
def weighM (s : Stp) (bits : List Int) : Int × Bool :=
  if validS s && decide (1 ≤ bits.length) && decide (bits.length ≤ 60) && bits.all (elemG s.g) then prodG s.g bits (pows bits.length) else (0, false)
def blindedM (s : Stp) (t : Int) : Clm := ⟨1, [⟨t, [⟨0, s.blind⟩]⟩]⟩
def bitC (s : Stp) (x : Int) : Cls := ⟨1, [blindedM s x, blindedM s (overG s.g x s.g.G)]⟩
def lastC (s : Stp) (c w : Int) : Cls := ⟨1, [blindedM s (overG s.g c w)]⟩
def bitsM (s : Stp) (bits : List Int) : List Cls := if (weighM s bits).2 then bits.map (bitC s) else []
def rangeM (s : Stp) (c : Int) (bits : List Int) : List Cls :=
  if (weighM s bits).2 && elemG s.g c then bitsM s bits ++ [lastC s c (weighM s bits).1] else []
def bitOf (v : Int) (k : Nat) : Int := v / 2 ^ k % 2
def knwOf (b r : Int) : List Knw := if b = 0 then [⟨true, [r]⟩, ⟨false, []⟩] else [⟨false, []⟩, ⟨true, [r]⟩]
def splitL (s : Stp) (v : Int) : Nat → List Int → List Int × List (List Knw)
  | _, [] => ([], [])
  | k, r :: l => (commitM s (bitOf v k) r :: (splitL s v (k + 1) l).1, knwOf (bitOf v k) r :: (splitL s v (k + 1) l).2)
def splitFine (s : Stp) (v : Int) (blinds : List Int) : Bool :=
  validS s && decide (1 ≤ blinds.length) && decide (blinds.length ≤ 60) && exponentsM s blinds blinds.length && decide (0 ≤ v) && decide (v < 2 ^ blinds.length)
def splitM (s : Stp) (v : Int) (blinds : List Int) : (List Int × List (List Knw)) × Bool :=
  if splitFine s v blinds then (splitL s v 0 blinds, true) else (([], []), false)
def restL (q : Int) : Nat → Int → List Int → Int
  | _, o, [] => o
  | k, o, x :: l => restL q (k + 1) (subM q o (mulM q x (2 ^ k))) l
def restM (s : Stp) (r : Int) (blinds : List Int) : Int :=
  if validS s && decide (blinds.length ≤ 60) then restL s.g.Q 0 (addM s.g.Q r 0) blinds else 0
def encodeM (ds : List (List Int)) (asx : List (List (List Int))) : Bytes × Bool :=
  if evenL ds asx then (encNums ((ds.length : Int) :: clauseL ds asx), true) else ([], false)
def ex : Stp := ⟨⟨23, 11, 4⟩, [16, 18], 12⟩
theorem less_facts : weighM ex [4, 4] = (18, true) ∧ splitM ex 2 [1, 2] = (([12, 1], [[⟨true, [1]⟩, ⟨false, []⟩], [⟨false, []⟩, ⟨true, [2]⟩]]), true) ∧ restM ex 3 [1, 2] = 9 ∧
    (rangeM ex (commitM ex 2 3) [12, 1]).length = 3 ∧ HoldsM ex (blindedM ex (overG ex.g (commitM ex 2 3) (weighM ex [12, 1]).1)) [9] = true ∧ validS ex = true ∧ exponentM ex 3 = true ∧ exponentM ex 5 = true ∧ powerG ex.g ex.g.G 3 = 18 := by
  decide +kernel
end PrSpec
namespace Go.Proofs
open Go Go.Sh Go.RowKit FdSpec TkSpec CodeSpec PrSpec
set_option linter.unusedSimpArgs false
set_option linter.unusedVariables false
set_option maxRecDepth 10000
theorem pow2_lt {n m : Nat} (h : n ≤ m) : (2 : Int) ^ n ≤ 2 ^ m := by exact_mod_cast Nat.pow_le_pow_right (by decide) h
theorem oM_shl_i (P : Program) (t t' T : TypeId) (y : Int) (h0 : 0 ≤ y) (h1 : y ≤ 62) : oM P (.binOp .shl t (.tmp 0) (.tmp 1) t') T [.int .i64 1, .int .i64 y] = pureM (.int .i64 (2 ^ y.toNat)) := by
  funext K w
  have hp : (2 : Int) ^ y.toNat ≤ 2 ^ 62 := pow2_lt (by omega)
  have hp0 : (0 : Int) < 2 ^ y.toNat := Int.pow_pos (by decide)
  have e : IntKind.i64.wrap (2 ^ y.toNat) = 2 ^ y.toNat := wrapI64 _ (by omega) (by simp at hp; omega)
  simp [oM, opM, xop, execOp, evalL, evE, binOp, Op.shift, h0, e]
  rfl
theorem oM_shr_i (P : Program) (t t' T : TypeId) (x y : Int) (h0 : 0 ≤ y) (h1 : y ≤ 62) : oM P (.binOp .shr t (.tmp 0) (.tmp 1) t') T [.int .i64 x, .int .i64 y] = pureM (.int .i64 (x / 2 ^ y.toNat)) := by
  funext K w
  simp [oM, opM, xop, execOp, evalL, evE, binOp]
  rfl
theorem oM_and1_i (P : Program) (t t' T : TypeId) (x : Int) (h0 : 0 ≤ x) (h1 : x < 9223372036854775808) : oM P (.binOp .and t (.tmp 0) (.tmp 1) t') T [.int .i64 x, .int .i64 1] = pureM (.int .i64 (x % 2)) := by
  funext K w
  have e : bits BinOp.and IntKind.i64 x 1 = x % 2 := by
    obtain ⟨a, rfl⟩ := Int.eq_ofNat_of_zero_le h0
    have ha : a < 2 ^ 64 := by omega
    rw [show (1 : Int) = ((1 : Nat) : Int) from rfl]
    simp only [bits]
    rw [BitVec.ofInt_natCast, BitVec.ofInt_natCast, BitVec.toNat_and]
    simp only [BitVec.toNat_ofNat]
    rw [show IntKind.i64.bits = 64 from rfl, Nat.mod_eq_of_lt ha, Nat.mod_eq_of_lt (by decide : 1 < 2 ^ 64), Nat.and_one_is_mod]
    rw [wrapI64 _ (by omega) (by omega)]
    omega
  simp [oM, opM, xop, execOp, evalL, evE, binOp, go_sem, e]
theorem shlI {P : Program} {t t' T : TypeId} {n : Nat} {K : Value → World → Prop} {w : World} (h : n ≤ 62) (k : K (.int .i64 (2 ^ n)) w) : oM P (.binOp .shl t (.tmp 0) (.tmp 1) t') T [.int .i64 1, .int .i64 (n : Int)] K w := by
  rw [oM_shl_i P t t' T n (by omega) (by omega), Int.toNat_natCast]; exact k
theorem shrI {P : Program} {t t' T : TypeId} {n : Nat} {x : Int} {K : Value → World → Prop} {w : World} (h : n ≤ 62) (k : K (.int .i64 (x / 2 ^ n)) w) : oM P (.binOp .shr t (.tmp 0) (.tmp 1) t') T [.int .i64 x, .int .i64 (n : Int)] K w := by
  rw [oM_shr_i P t t' T x n (by omega) (by omega), Int.toNat_natCast]; exact k
theorem andI {P : Program} {t t' T : TypeId} {x : Int} {K : Value → World → Prop} {w : World} (h : 0 ≤ x ∧ x < 9223372036854775808) (k : K (.int .i64 (x % 2)) w) : oM P (.binOp .and t (.tmp 0) (.tmp 1) t') T [.int .i64 x, .int .i64 1] K w := by
  rw [oM_and1_i P t t' T x h.1 h.2]; exact k
section
variable {α : Type} {n : Nat} {V : World → List Value → α → Prop} {w w' : World} {v : Value} {l : List α}
theorem atOf_stay (h : VStay V) : Stay (AtOf n V) := fun w w' b p x ⟨c, hc, h1, h2⟩ hlt hb => ⟨c, hc, fun j u hj => (hb.cell hlt).trans (h1 j u hj), h _ _ _ _ h2 hb⟩
theorem rows_stay (h : VStay V) : VStay (VOne fun w v (l : List α) => SRow n (AtOf n V) w v l) := fun w w' c x ⟨v, hc, hr⟩ hb => ⟨v, hc, hr.next (atOf_stay h) hb⟩
theorem ints_stay : VStay (VOne Ints) := fun w w' c x ⟨v, hc, hr⟩ hb => ⟨v, hc, hr.next hb⟩
theorem SRow.nil : SRow n (AtOf n V) w (.slice none 0 0) ([] : List α) := ⟨⟨none, 0, rfl, .inl rfl⟩, by simp⟩
theorem _root_.Go.Sh.GRow.srow {e : TypeId} {B : Nat} {D : Nat → Prop} (hn : 0 < n) (h : GRow n e V B D w v l) (hl : l.length ≤ 9223372036854775807) : SRow n (AtOf n V) w v l := by
  obtain ⟨cs, ho, hf⟩ := h.ex
  obtain ⟨hc1, hc2⟩ := hf.here
  obtain ⟨ad, c, rfl⟩ := owns_len ho
  refine ⟨⟨ad, c, rfl, ?_⟩, hl⟩
  by_cases h0 : l = []
  · exact .inl h0
  right
  obtain ⟨g, cap, cur, hv, hlt, _, _, _, _, hcell⟩ := owns_cells ho (List.length_pos_iff.2 h0)
  cases hv
  refine ⟨g, 0, rfl, hlt, fun i hi => ?_⟩
  have hci : cs[i]? = some cs[i] := List.getElem?_eq_getElem (by omega)
  refine ⟨cs[i].1, cs[i].2, fun j u hj => ?_, hc2 i _ _ hci (List.getElem?_eq_getElem hi)⟩
  rw [Nat.zero_add]
  refine hcell _ _ ?_
  have hj' : j < n := by have := (List.getElem?_eq_some_iff.1 hj).1; rw [cs[i].2] at this; exact this
  rw [flat_at (mk := Cl.cs) (sz := n) (fun c => c.2) cs i j hci hj']
  exact hj
theorem _root_.Go.Sh.GRow.fp {e : TypeId} {B : Nat} {D : Nat → Prop} (hn : 0 < n) (h : GRow n e V B D w v l) (hl : l.length ≤ 9223372036854775807) : FP (fun i => D i ∨ v.ownBlock = some i) w (fun w => SRow n (AtOf n V) w v l) := by
  obtain ⟨cs, ho, hf⟩ := h.ex
  intro w' a b c d e'
  have h2 : GRow n e V B D w' v l := ⟨cs, owns_keep ho (fun i hi => e' i (.inr hi)), fun w2 a2 b2 c2 d2 e2 => hf w2 (a2.trans a) (b2.trans b) (c2.trans c) (Nat.le_trans d d2) (fun i hi => (e2 i hi).trans (e' i (.inl hi)))⟩
  exact h2.srow hn hl
end
end Go.Proofs
namespace Go.Proofs
open Go Go.Sh Go.RowKit FdSpec TkSpec CodeSpec PrSpec
set_option linter.unusedSimpArgs false
set_option linter.unusedVariables false
set_option maxRecDepth 10000
section
variable {K : Value → World → Prop} {w w0 : World} {L : List (Addr × Value)}
theorem shl1 {i : Nat} (h : i ≤ 62) : IntKind.i64.wrap (1 * 2 ^ min i IntKind.i64.bits) = 2 ^ i := by
  have hp : (2 : Int) ^ i ≤ 2 ^ 62 := pow2_lt h
  have hp0 : (0 : Int) < 2 ^ i := Int.pow_pos (by decide)
  have e : min i IntKind.i64.bits = i := Nat.min_eq_left (by show i ≤ 64; omega)
  rw [e, Int.one_mul, wrapI64 _ (by omega) (by simp at hp; omega)]
theorem Over_ok (g : Grp) (a b : Int) (k : ∀ w', Below w.heap.size w w' → K (.int .i64 (overG g a b)) w') : callM Tryz.prog 121 #[grpV g, .int .i64 a, .int .i64 b] K w := by
  apply sh_121_ok
  unfold sh_121
  refine box_kn (cs := [.int .i64 g.P, .int .i64 g.Q, .int .i64 g.G]) rfl (.start w) fun b1 W hk hb1 hbb => ?_
  refine ⟨Kn w (cellsOf [] b1 0 [.int .i64 g.P, .int .i64 g.Q, .int .i64 g.G]), hk.drew, ?_⟩
  repeat (any_goals ((with_reducible refine idOQ ?_); (with_reducible refine oQ_of ⟨_, rfl⟩ (fun W0 hW0 => by (refine oM_gen (fun Kv hK => ?_)); simp [go_sem, hW0.cells]; (first | exact hK _ _ ⟨rfl, rfl⟩ | exact ⟨by omega, hK _ _ ⟨rfl, rfl⟩⟩)) ?_)))
  refine callQ_of (fun W hW => Pow_ok g.P b (-1) (by omega) (fun w' hb => ⟨rfl, hW.next hb⟩)) ?_
  refine callQ_of (fun W hW => Times_ok g a _ (fun w' hb => ⟨rfl, hW.next hb⟩)) ?_
  intro W hW
  exact k _ hW.below
theorem overG_I64 (g : Grp) (a b : Int) : I64 (overG g a b) := by
  unfold overG timesG
  split
  · exact mulM_I64 _ _ _
  · exact I64_0
theorem Commit_ok (s : Stp) (v r : Int) {sv : Value} (hs : SetR w s sv) (hv : I64 v) (hr : I64 r) (k : ∀ w', Below w.heap.size w w' → K (.int .i64 (commitM s v r)) w') : callM Tryz.prog 44 #[stpV s sv, .int .i64 v, .int .i64 r] K w := by
  apply sh_44_ok
  unfold sh_44
  have hs' := hs
  obtain ⟨ad, c, rfl⟩ := hs.ints.isSlice
  refine box_kn (cs := stpC s (.slice ad s.bases.length c)) rfl (.start w) fun b1 W hk hb1 hbb => ?_
  clear hb1 hbb
  repeat (any_goals ((with_reducible refine idO ?_); (with_reducible refine oM_gen fun Kv hK=>?_); simp [go_sem, hk.cells]; refine hK _ _ ?_; clear hK; clear Kv))
  refine ValidSetup_ok s (hs'.next hk.below) (fun w2 h2 => ?_)
  have hk := hk.next h2
  unfold commitM at k
  cases hvs : validS s with
  | false =>
    rw [hvs] at k
    repeat (any_goals (first
    | (with_reducible ((refine idCond ?_); refine yL ?_))
    | ((with_reducible refine idO ?_); (with_reducible refine oM_gen fun Kv hK=>?_); simp [go_sem]; refine hK _ _ ?_; clear hK; clear Kv)))
    exact k _ hk.below
  | true =>
  rw [hvs, if_pos rfl] at k
  iterate 9 (any_goals (first
  | (with_reducible ((refine idCond ?_); refine yM ?_))
  | ((with_reducible refine idO ?_); (with_reducible refine oM_gen fun Kv hK=>?_); simp [go_sem, hk.cells]; refine hK _ _ ?_; clear hK; clear Kv)))
  refine mk2 _ _ hs'.grp.2.2 hs'.blind (fun u1 w3 h3 hi1 => ?_)
  have hk := hk.next h3
  refine mk2 _ _ hv hr (fun u2 w4 h4 hi2 => ?_)
  have hk := hk.next h4
  refine Product_ok s.g (hi1.next h4) hi2 (fun w5 h5 => ?_)
  have hk := hk.next h5
  repeat (any_goals ((with_reducible refine idO ?_); (with_reducible refine oM_gen fun Kv hK=>?_); simp [go_sem]; refine hK _ _ ?_; clear hK; clear Kv))
  exact k _ hk.below
def RsJ (s : Stp) (q : Int) (l : List Int) (R : Int) (w0 : World) (L : List (Addr × Value)) (vs : List Value) (w' : World) : Prop := Kn w0 L w' ∧ ∃ (u1 u2 : Value) (o : Int) (i : Nat), vs = [u1, u2, .int .i64 o, .int .i64 (i : Int)] ∧ i ≤ l.length ∧ restL q i o (l.drop i) = R
theorem Rest_ok (s : Stp) (r : Int) (l : List Int) {sv lv : Value} (hs : SetR w s sv) (hl : Ints w lv l) (k : ∀ w', Below w.heap.size w w' → K (.int .i64 (restM s r l)) w') : callM Tryz.prog 71 #[stpV s sv, .int .i64 r, lv] K w := by
  apply sh_71_ok
  unfold sh_71
  have hs' := hs
  obtain ⟨ad, c, rfl⟩ := hs.ints.isSlice
  have hl' := hl
  obtain ⟨lad, lc, rfl⟩ := hl.isSlice
  refine box_kn (cs := stpC s (.slice ad s.bases.length c)) rfl (.start w) fun b1 W hk hb1 hbb => ?_
  clear hb1 hbb
  repeat (any_goals ((with_reducible refine idO ?_); (with_reducible refine oM_gen fun Kv hK=>?_); simp [go_sem, hk.cells]; refine hK _ _ ?_; clear hK; clear Kv))
  refine ValidSetup_ok s (hs'.next hk.below) (fun w2 h2 => ?_)
  have hk := hk.next h2
  unfold restM at k
  cases hvs : validS s with
  | false =>
    rw [hvs, Bool.false_and] at k
    repeat (any_goals (first
    | (with_reducible first|((refine idGd ?_); refine zD ?_)|((refine idPick ?_); refine yB ?_)|((refine idCond ?_); refine yL ?_))
    | ((with_reducible refine idO ?_); (with_reducible refine oM_gen fun Kv hK=>?_); simp [go_sem]; refine hK _ _ ?_; clear hK; clear Kv)))
    exact k _ hk.below
  | true =>
  rw [hvs, Bool.true_and] at k
  by_cases h6 : (60 : Int) < l.length
  · rw [decide_eq_false (by omega)] at k
    repeat (any_goals (first
    | (with_reducible first|refine pureM_in ?_|((refine idGd ?_); refine zC ?_)|((refine idPick ?_); refine yC ?_)|((refine idCond ?_); refine yL ?_))
    | ((with_reducible refine idO ?_); (with_reducible refine oM_gen fun Kv hK=>?_); simp [go_sem, h6]; refine hK _ _ ?_; clear hK; clear Kv)))
    exact k _ hk.below
  rw [decide_eq_true (by omega), if_pos rfl] at k
  repeat (any_goals (first
  | (with_reducible first|refine pureM_in ?_|((refine idGd ?_); refine zC ?_)|((refine idPick ?_); refine yC ?_)|((refine idCond ?_); refine yM ?_))
  | ((with_reducible refine idO ?_); (with_reducible refine oM_gen fun Kv hK=>?_); simp [go_sem, hk.cells, h6]; refine hK _ _ ?_; clear hK; clear Kv)))
  refine Add_ok _ _ _ ?_
  repeat (any_goals ((with_reducible refine idO ?_); (with_reducible refine oM_gen fun Kv hK=>?_); simp [go_sem]; refine hK _ _ ?_; clear hK; clear Kv))
  refine ⟨RsJ s s.g.Q l (restL s.g.Q 0 (addM s.g.Q r 0) l) w _, (fun vs _ => match vs with | [_, _, _, .int _ i] => l.length - i.toNat | _ => 0), ⟨hk, _, _, _, 0, rfl, by omega, rfl⟩, ?_⟩
  generalize restL s.g.Q 0 (addM s.g.Q r 0) l = R at *
  rintro _ _ w3 ⟨hk, u1, u2, o, i, rfl, hi, ha⟩
  by_cases hin : i = l.length
  · rw [List.drop_of_length_le (by omega)] at ha
    repeat (any_goals (first
    | (with_reducible ((refine idCond ?_); refine yO ?_))
    | ((with_reducible refine idO ?_); (with_reducible refine oM_gen fun Kv hK=>?_); simp [go_sem]; refine hK _ _ ?_; clear hK; clear Kv)))
    have e : o = R := ha
    rw [e]
    exact k _ hk.below
  rw [List.drop_eq_getElem_cons (by omega)] at ha
  obtain ⟨b8, o8, rfl, hb8', ca, ra, _⟩ := hl'.at (i := i) (by omega)
  repeat (any_goals (first
  | (with_reducible ((refine idCond ?_); refine yN ?_))
  | ((with_reducible refine idO ?_); (with_reducible refine oM_gen fun Kv hK=>?_); simp [go_sem, ca _ hk.below]; (first|refine hK _ _ ?_|refine And.intro (by omega) (hK _ _ ?_)); clear hK; clear Kv)))
  refine Mul_ok _ _ _ (fun w4 h4 => ?_)
  have hk := hk.next h4
  refine Sub_ok _ _ _ ?_
  repeat (any_goals ((with_reducible refine idO ?_); (with_reducible refine oM_gen fun Kv hK=>?_); simp [go_sem]; (try simp (disch := omega) only [wrapI64, wrapU8, wrapU32, wrapU64]); refine hK _ _ ?_; clear hK; clear Kv))
  refine ⟨⟨hk, _, _, _, i + 1, rfl, by omega, ?_⟩, by show l.length - (((i + 1 : Nat) : Int)).toNat < l.length - ((i : Nat) : Int).toNat; omega⟩
  rw [← ha, shl1 (by omega)]
  rfl
def WgJ (g : Grp) (l : List Int) (R : Bool) (w0 : World) (vs : List Value) (w' : World) : Prop := Below w0.heap.size w0 w' ∧ ∃ (u1 u2 u3 u4 ev : Value) (i : Nat), vs = [u1, u2, u3, u4, ev, .int .i64 (i : Int)] ∧ i ≤ l.length ∧ OwnI w' w0.heap.size ev ((pows l.length).take i) ∧ (l.drop i).all (elemG g) = R
theorem pows_len (n : Nat) : (pows n).length = n := by simp [pows]
theorem pows_at {n i : Nat} (h : i < n) : (pows n)[i]? = some (2 ^ i) := by simp [pows, h]
theorem pows_I64 {n : Nat} (h : n ≤ 60) : ∀ x ∈ pows n, I64 x := by
  intro x hx
  simp only [pows, List.mem_map, List.mem_range] at hx
  obtain ⟨k, hk, rfl⟩ := hx
  have hp : (2 : Int) ^ k ≤ 2 ^ 62 := pow2_lt (by omega)
  have hp0 : (0 : Int) < 2 ^ k := Int.pow_pos (by decide)
  simp at hp
  unfold I64
  omega
theorem Weigh_ok (s : Stp) (l : List Int) {sv lv : Value} (hs : SetR w s sv) (hl : Ints w lv l) (k : ∀ w', Below w.heap.size w w' → K (.tuple #[.int .i64 (weighM s l).1, .bool (weighM s l).2]) w') : callM Tryz.prog 74 #[stpV s sv, lv] K w := by
  apply sh_74_ok
  unfold sh_74
  have hs' := hs
  obtain ⟨ad, c, rfl⟩ := hs.ints.isSlice
  have hl' := hl
  obtain ⟨lad, lc, rfl⟩ := hl.isSlice
  refine box_kn (cs := stpC s (.slice ad s.bases.length c)) rfl (.start w) fun b1 W hk hb1 hbb => ?_
  clear hb1 hbb
  repeat (any_goals ((with_reducible refine idO ?_); (with_reducible refine oM_gen fun Kv hK=>?_); simp [go_sem, hk.cells]; refine hK _ _ ?_; clear hK; clear Kv))
  refine ValidSetup_ok s (hs'.next hk.below) (fun w2 h2 => ?_)
  have hk := hk.next h2
  unfold weighM at k
  cases hvs : validS s with
  | false =>
    rw [hvs, Bool.false_and, Bool.false_and, Bool.false_and] at k
    repeat (any_goals (first
    | (with_reducible first|((refine idGd ?_); refine zD ?_)|((refine idPick ?_); refine yB ?_)|((refine idCond ?_); refine yL ?_))
    | ((with_reducible refine idO ?_); (with_reducible refine oM_gen fun Kv hK=>?_); simp [go_sem]; refine hK _ _ ?_; clear hK; clear Kv)))
    exact k _ hk.below
  | true =>
  rw [hvs, Bool.true_and] at k
  by_cases h1 : (l.length : Int) < 1
  · rw [decide_eq_false (by omega), Bool.false_and, Bool.false_and] at k
    repeat (any_goals (first
    | (with_reducible first|refine pureM_in ?_|((refine idGd ?_); first|refine zC ?_|refine zD ?_)|((refine idPick ?_); first|refine yB ?_|refine yC ?_)|((refine idCond ?_); refine yL ?_))
    | ((with_reducible refine idO ?_); (with_reducible refine oM_gen fun Kv hK=>?_); simp [go_sem, h1]; refine hK _ _ ?_; clear hK; clear Kv)))
    exact k _ hk.below
  rw [decide_eq_true (by omega), Bool.true_and] at k
  by_cases h6 : (60 : Int) < l.length
  · rw [decide_eq_false (by omega), Bool.false_and] at k
    repeat (any_goals (first
    | (with_reducible first|refine pureM_in ?_|((refine idGd ?_); refine zC ?_)|((refine idPick ?_); refine yC ?_)|((refine idCond ?_); refine yL ?_))
    | ((with_reducible refine idO ?_); (with_reducible refine oM_gen fun Kv hK=>?_); simp [go_sem, h1, h6]; refine hK _ _ ?_; clear hK; clear Kv)))
    exact k _ hk.below
  rw [decide_eq_true (by omega), Bool.true_and] at k
  repeat (any_goals (first
  | (with_reducible first|refine pureM_in ?_|((refine idGd ?_); refine zC ?_)|((refine idPick ?_); refine yC ?_)|((refine idCond ?_); refine yM ?_))
  | ((with_reducible refine idO ?_); (with_reducible refine oM_gen fun Kv hK=>?_); simp [go_sem, hk.cells, h1, h6]; refine hK _ _ ?_; clear hK; clear Kv)))
  have hel : ∀ i (h : i < l.length), l[i]? = some l[i] := fun i h => List.getElem?_eq_getElem h
  refine ⟨WgJ s.g l (l.all (elemG s.g)) w2, (fun vs _ => match vs with | [_, _, _, _, _, .int _ i] => l.length - i.toNat | _ => 0), ⟨Below.refl _ _, _, _, _, _, _, 0, rfl, by omega, own_none, rfl⟩, ?_⟩
  generalize hR : l.all (elemG s.g) = R at *
  rintro _ _ w3 ⟨hb3, u1, u2, u3, u4, ev, i, rfl, hi, hoe, ha⟩
  have hk3 := hk.next hb3
  by_cases hin : i = l.length
  · rw [List.drop_of_length_le (by omega), List.all_nil] at ha
    rw [List.take_of_length_le (by rw [pows_len]; omega)] at hoe
    rw [← ha, if_pos rfl] at k
    have hoi := hoe.ints (pows_I64 (by omega)) (by rw [pows_len]; omega)
    repeat (any_goals (first
    | (with_reducible ((refine idCond ?_); refine yO ?_))
    | ((with_reducible refine idO ?_); (with_reducible refine oM_gen fun Kv hK=>?_); simp [go_sem, hk3.cells]; refine hK _ _ ?_; clear hK; clear Kv)))
    refine Product_ok s.g (hl'.next hk3.below) hoi (fun w5 h5 => ?_)
    have hk := hk3.next h5
    repeat (any_goals ((with_reducible refine idO ?_); (with_reducible refine oM_gen fun Kv hK=>?_); simp [go_sem]; refine hK _ _ ?_; clear hK; clear Kv))
    exact k _ hk.below
  rw [List.drop_eq_getElem_cons (by omega), List.all_cons] at ha
  obtain ⟨b8, o8, rfl, hb8', ca, ra, _⟩ := hl'.at (i := i) (by omega)
  repeat (any_goals (first
  | (with_reducible ((refine idCond ?_); refine yN ?_))
  | ((with_reducible refine idO ?_); (with_reducible refine oM_gen fun Kv hK=>?_); simp [go_sem, ca _ hk3.below, hk3.cells]; (first|refine hK _ _ ?_|refine And.intro (by omega) (hK _ _ ?_)); clear hK; clear Kv)))
  refine Element_ok s.g _ hs'.grp (hs'.db.next hk3.below) (fun w4 h4 => ?_)
  have hk' := hk3.next h4
  cases hel : elemG s.g l[i] with
  | false =>
    rw [hel, Bool.false_and] at ha
    rw [← ha] at k
    repeat (any_goals (first
    | (with_reducible ((refine idCond ?_); refine yL ?_))
    | ((with_reducible refine idO ?_); (with_reducible refine oM_gen fun Kv hK=>?_); simp [go_sem]; refine hK _ _ ?_; clear hK; clear Kv)))
    exact k _ hk'.below
  | true =>
  rw [hel, Bool.true_and] at ha
  have hx : I64 (2 ^ i) := pows_I64 (n := l.length) (by omega) _ (List.mem_of_getElem? (pows_at (by omega)))
  iterate 3 (any_goals (first
  | (with_reducible ((refine idCond ?_); refine yM ?_))
  | ((with_reducible refine idO ?_); (with_reducible refine oM_gen fun Kv hK=>?_); simp [go_sem]; refine hK _ _ ?_; clear hK; clear Kv)))
  rw [shl1 (by omega)]
  refine mk1 _ hx (fun v5 w5 h5 hi5 => ?_)
  have hoe := (hoe.keep h4).keep h5
  have hb5 := (hb3.on h4).on h5
  refine append1g hoe hb5.size hi5 (by rw [List.length_take]; omega) (fun v6 w6 ho6 hg6 hv6 => ?_)
  rw [Int.toNat_natCast, take_snoc' (pows_at (by omega))] at ho6
  repeat (any_goals ((with_reducible refine idO ?_); (with_reducible refine oM_gen fun Kv hK=>?_); simp [go_sem]; (try simp (disch := omega) only [wrapI64, wrapU8, wrapU32, wrapU64]); refine hK _ _ ?_; clear hK; clear Kv))
  exact ⟨⟨hb5.grown hg6 hb5.size (fun j hj => (owns_own hoe hj).2.1), _, _, _, _, _, i + 1, rfl, by omega, ho6, ha⟩, by show l.length - (((i + 1 : Nat) : Int)).toNat < l.length - ((i : Nat) : Int).toNat; omega⟩
end
end Go.Proofs
namespace Go.Proofs
open Go Go.Sh Go.RowKit FdSpec TkSpec CodeSpec PrSpec
set_option linter.unusedSimpArgs false
set_option linter.unusedVariables false
set_option maxRecDepth 10000
section
variable {K : Value → World → Prop} {w w' w0 W : World} {L : List (Addr × Value)}
section
variable {α : Type} {n : Nat} {V : World → List Value → α → Prop}
theorem srow_lit1 {g c : Nat} {T : TypeId} {x : α} {xs : List Value} (h : Holds w g T xs) (hl : xs.length = n) (hV : V w xs x) : SRow n (AtOf n V) w (.slice (some ⟨g, 0, none⟩) 1 c) [x] := by
  refine ⟨⟨_, c, rfl, .inr ⟨g, 0, rfl, h.lt, fun i hi => ?_⟩⟩, by simp⟩
  obtain rfl : i = 0 := by simpa using hi
  refine ⟨xs, hl, fun j u hj => ?_, hV⟩
  rw [Nat.zero_mul, Nat.zero_add, cell_of_block h]
  simpa using hj
theorem srow_lit2 {g c : Nat} {T : TypeId} {x y : α} {xs ys : List Value} (h : Holds w g T (xs ++ ys)) (hl : xs.length = n) (hl2 : ys.length = n) (hV : V w xs x) (hV2 : V w ys y) : SRow n (AtOf n V) w (.slice (some ⟨g, 0, none⟩) 2 c) [x, y] := by
  refine ⟨⟨_, c, rfl, .inr ⟨g, 0, rfl, h.lt, fun i hi => ?_⟩⟩, by simp⟩
  match i, hi with
  | 0, _ =>
    refine ⟨xs, hl, fun j u hj => ?_, hV⟩
    rw [Nat.zero_mul, Nat.zero_add, cell_of_block h]
    simp only [List.getElem?_toArray, Nat.zero_add]
    rw [List.getElem?_append_left (List.getElem?_eq_some_iff.1 hj).1]
    exact hj
  | 1, _ =>
    refine ⟨ys, hl2, fun j u hj => ?_, hV2⟩
    rw [Nat.one_mul, cell_of_block h]
    simp only [List.getElem?_toArray, Nat.zero_add]
    rw [List.getElem?_append_right (by omega)]
    rw [show n + j - xs.length = j by omega]
    exact hj
  | i + 2, h => exact absurd h (by simp)
end
def VClm (w : World) (c : List Value) (x : Clm) : Prop := ∃ v, c = clmC x v ∧ ClmR w x v
@[reducible] def clsC (c : Cls) (v : Value) : List Value := [.int .i64 c.need, v]
@[reducible] def clsV (c : Cls) (v : Value) : Value := .agg #[.int .i64 c.need, v]
def ClsR (w : World) (c : Cls) (v : Value) : Prop := I64 c.need ∧ SRow 2 (AtOf 2 VClm) w v c.claims
def VCls (w : World) (c : List Value) (x : Cls) : Prop := ∃ v, c = clsC x v ∧ ClsR w x v
abbrev GoalR (w : World) (v : Value) (l : List Cls) : Prop := SRow 2 (AtOf 2 VCls) w v l
@[reducible] def knwC (k : Knw) (v : Value) : List Value := [.bool k.has, v]
@[reducible] def knwV (k : Knw) (v : Value) : Value := .agg #[.bool k.has, v]
def VKnw (w : World) (c : List Value) (x : Knw) : Prop := ∃ v, c = knwC x v ∧ Ints w v x.values
abbrev KnwsR (w : World) (v : Value) (l : List Knw) : Prop := SRow 2 (AtOf 2 VKnw) w v l
abbrev KnowR (w : World) (v : Value) (l : List (List Knw)) : Prop := SRow 1 (AtOf 1 (VOne KnwsR)) w v l
abbrev ListsR (w : World) (v : Value) (l : List (List Int)) : Prop := SRow 1 (AtOf 1 (VOne Ints)) w v l
abbrev NumsR (w : World) (v : Value) (l : List (List (List Int))) : Prop := SRow 1 (AtOf 1 (VOne ListsR)) w v l
theorem clm_vstay : VStay VClm := fun w w' c x ⟨v, hc, h⟩ hb => ⟨v, hc, h.next hb⟩
theorem cls_vstay : VStay VCls := fun w w' c x ⟨v, hc, h1, h2⟩ hb => ⟨v, hc, h1, h2.next (atOf_stay clm_vstay) hb⟩
theorem knw_vstay : VStay VKnw := fun w w' c x ⟨v, hc, h1⟩ hb => ⟨v, hc, h1.next hb⟩
theorem knws_vstay : VStay (VOne KnwsR) := rows_stay knw_vstay
theorem lists_vstay : VStay (VOne ListsR) := rows_stay ints_stay
section
theorem lit_trm {T : TypeId} (a b : Int) (k : ∀ g W, Below w.heap.size w W → w.heap.size ≤ g → Holds W g 146 [.int .i64 a, .int .i64 b] → K (.slice (some ⟨g, 0, none⟩) 1 1) W) : oM Tryz.prog (.buildSlice 142 1 #[(0, .tmp 0)]) T [.agg #[.int .i64 a, .int .i64 b]] K w := by
  rw [oM_buildSlice1]; exact lit_run (by kernel_rfl) k
theorem lit_eqn {T : TypeId} (a : Int) (ad : Option Addr) (n c : Nat) (k : ∀ g W, Below w.heap.size w W → w.heap.size ≤ g → Holds W g 144 [.int .i64 a, .slice ad n c] → K (.slice (some ⟨g, 0, none⟩) 1 1) W) : oM Tryz.prog (.buildSlice 67 1 #[(0, .tmp 0)]) T [.agg #[.int .i64 a, .slice ad n c]] K w := by
  rw [oM_buildSlice1]; exact lit_run (by kernel_rfl) k
theorem lit_clm {T : TypeId} (a : Int) (ad : Option Addr) (n c : Nat) (k : ∀ g W, Below w.heap.size w W → w.heap.size ≤ g → Holds W g 69 [.int .i64 a, .slice ad n c] → K (.slice (some ⟨g, 0, none⟩) 1 1) W) : oM Tryz.prog (.buildSlice 63 1 #[(0, .tmp 0)]) T [.agg #[.int .i64 a, .slice ad n c]] K w := by
  rw [oM_buildSlice1]; exact lit_run (by kernel_rfl) k
theorem lit_clm2 {T : TypeId} (a a2 : Int) (ad ad2 : Option Addr) (n c n2 c2 : Nat) (k : ∀ g W, Below w.heap.size w W → w.heap.size ≤ g → Holds W g 69 ([.int .i64 a, .slice ad n c] ++ [.int .i64 a2, .slice ad2 n2 c2]) → K (.slice (some ⟨g, 0, none⟩) 2 2) W) : oM Tryz.prog (.buildSlice 63 2 #[(0, .tmp 0), (1, .tmp 1)]) T [.agg #[.int .i64 a, .slice ad n c], .agg #[.int .i64 a2, .slice ad2 n2 c2]] K w := by
  rw [oM_buildSlice2]; exact lit_run (by kernel_rfl) k
theorem lit_cls {T : TypeId} (a : Int) (ad : Option Addr) (n c : Nat) (k : ∀ g W, Below w.heap.size w W → w.heap.size ≤ g → Holds W g 65 [.int .i64 a, .slice ad n c] → K (.slice (some ⟨g, 0, none⟩) 1 1) W) : oM Tryz.prog (.buildSlice 27 1 #[(0, .tmp 0)]) T [.agg #[.int .i64 a, .slice ad n c]] K w := by
  rw [oM_buildSlice1]; exact lit_run (by kernel_rfl) k
theorem lit_knws {T : TypeId} (ad : Option Addr) (n c : Nat) (k : ∀ g W, Below w.heap.size w W → w.heap.size ≤ g → Holds W g 114 [.slice ad n c] → K (.slice (some ⟨g, 0, none⟩) 1 1) W) : oM Tryz.prog (.buildSlice 28 1 #[(0, .tmp 0)]) T [.slice ad n c] K w := by
  rw [oM_buildSlice1]; exact lit_run (by kernel_rfl) k
end
theorem sz_clm (w : World) : (sizeOf 69).run Tryz.prog w = .ok 2 w := by kernel_rfl
theorem al_clm (w : World) : (Instr.alloc 69 true (.tuple #[])).run Tryz.prog w = .ok (.pointer (some ⟨w.heap.size, 0, none⟩)) (w.alloc (.cells [.int .i64 0, .slice none 0 0].toArray 69)) := by kernel_rfl
theorem clm_one (a : Int) (ad : Option Addr) (n c : Nat) : ∀ u ∈ ([.int .i64 a, .slice ad n c] : List Value), u.oneCell' = true := by
  intro u hu
  simp only [List.mem_cons, List.not_mem_nil, or_false] at hu
  rcases hu with rfl | rfl <;> rfl
theorem un_clm : Tryz.prog.underlying 69 = some ((Tryz.prog.underlying 69).getD default) := by kernel_rfl
theorem blind_clm {s : Stp} {t : Int} {g1 g2 c1 c2 : Nat} {T1 T2 : TypeId} (ht : I64 t) (hb : I64 s.blind) (h1 : Holds w g1 T1 [.int .i64 0, .int .i64 s.blind]) (h2 : Holds w g2 T2 [.int .i64 t, .slice (some ⟨g1, 0, none⟩) 1 c1]) : ClmR w (blindedM s t) (.slice (some ⟨g2, 0, none⟩) 1 c2) := by
  refine ⟨by show I64 1; unfold I64; decide, ⟨⟨_, c2, rfl, .inr ⟨g2, 0, rfl, h2.lt, fun i hi => ?_⟩⟩, by simp [blindedM]⟩⟩
  obtain rfl : i = 0 := by simpa [blindedM] using hi
  refine ⟨_, ?_, ?_, ⟨⟨_, c1, rfl, .inr ⟨g1, 0, rfl, h1.lt, fun i hi => ?_⟩⟩, by simp [blindedM]⟩, ht⟩
  · rw [cell_of_block h2]; simp [blindedM]
  · rw [cell_of_block h2]; simp [blindedM]
  · obtain rfl : i = 0 := by simpa [blindedM] using hi
    refine ⟨?_, ?_, ?_, hb⟩
    · rw [cell_of_block h1]; simp [blindedM]
    · rw [cell_of_block h1]; simp [blindedM]
    · simp [blindedM, I64]
def ClmF (W w : World) (x : Clm) (v : Value) : Prop := ∃ ad c, v = clmV x (.slice ad x.eqs.length c) ∧ Fresh W w (fun w => ClmR w x (.slice ad x.eqs.length c))
theorem blinded_ok (s : Stp) (t : Int) {sv : Value} (hs : SetR w s sv) (ht : I64 t) (k : ∀ w' v, Below w.heap.size w w' → ClmF w w' (blindedM s t) v → K v w') : callM Tryz.prog 120 #[stpV s sv, .int .i64 t] K w := by
  apply sh_120_ok
  unfold sh_120
  have hs' := hs
  obtain ⟨ad, c, rfl⟩ := hs.ints.isSlice
  refine box_kn (cs := stpC s (.slice ad s.bases.length c)) rfl (.start w) fun b1 W hk hb1 hbb => ?_
  refine arr_alloc al_clm (fun g2 w2 h2 hg2 hh => ?_)
  have hk := hk.next h2
  have hglt := hh.lt
  have hW := hb1.size
  have h2s := h2.size
  iterate 3 (any_goals ((with_reducible refine idO ?_); (with_reducible refine oM_gen fun Kv hK=>?_); simp [go_sem, hk.cells]; refine hK _ _ ?_; clear hK; clear Kv))
  refine lit_trm _ _ (fun g3 w3 h3 hg3 hh3 => ?_)
  iterate 1 (any_goals ((with_reducible refine idO ?_); (with_reducible refine oM_gen fun Kv hK=>?_); simp [go_sem]; refine hK _ _ ?_; clear hK; clear Kv))
  refine lit_eqn _ _ _ _ (fun g4 w4 h4 hg4 hh4 => ?_)
  iterate 1 (any_goals ((with_reducible refine idO ?_); (with_reducible refine oM_gen fun Kv hK=>?_); simp [go_sem]; refine hK _ _ ?_; clear hK; clear Kv))
  have hh3 := hh3.next h4
  have hh := (hh.next h3).next h4
  refine arr_store sz_clm (xs := [.int .i64 1, .slice (some ⟨g4, 0, none⟩) 1 1]) rfl rfl (clm_one 1 _ 1 1) hh rfl (fun w5 hg5 hh5 => ?_)
  have hh3 := hh3.other hg5 (by omega)
  have hh4 := hh4.other hg5 (by have := h3.size; omega)
  have hb := (hk.next h3).next h4 |>.below
  have hgg : w.heap.size ≤ g2 := by omega
  refine arr_ret hh5 un_clm (by kernel_rfl) (by kernel_rfl) (k _ _ (grown_below hb hg5 hgg) ⟨some ⟨g4, 0, none⟩, 1, rfl, ?_⟩)
  have h3s := h3.size
  refine ((hh3.fresh (W := w) (by omega)).both (hh4.fresh (W := w) (by omega))).imp ?_
  rintro w' ⟨e1, e2⟩
  exact blind_clm ht hs'.blind e1 e2
end
end Go.Proofs
namespace Go.Proofs
open Go Go.Sh Go.RowKit FdSpec TkSpec CodeSpec PrSpec
set_option linter.unusedSimpArgs false
set_option linter.unusedVariables false
set_option maxRecDepth 10000
section
variable {K : Value → World → Prop} {w w' w0 W : World} {L : List (Addr × Value)}
def RowF {α : Type} (n : Nat) (V : World → List Value → α → Prop) (W w : World) (l : List α) (v : Value) : Prop := (∃ ad c, v = .slice ad l.length c) ∧ Fresh W w (fun w => SRow n (AtOf n V) w v l)
def ClsF (W w : World) (x : Cls) (v : Value) : Prop := ∃ ad c, v = clsV x (.slice ad x.claims.length c) ∧ Fresh W w (fun w => ClsR w x (.slice ad x.claims.length c))
def LitF (T : TypeId) (W w : World) (x : Cls) (v : Value) : Prop := ∃ g ad c, v = .slice (some ⟨g, 0, none⟩) 1 1 ∧ W.heap.size ≤ g ∧ Holds w g T (clsC x (.slice ad x.claims.length c)) ∧ Fresh W w (fun w => ClsR w x (.slice ad x.claims.length c))
theorem _root_.Go.Sh.GRow.base {α : Type} {n : Nat} {e : TypeId} {V : World → List Value → α → Prop} {B C : Nat} {D : Nat → Prop} {v : Value} {l : List α} (h : GRow n e V B D w v l) (hc : C ≤ B) : GRow n e V C D w v l := by
  obtain ⟨cs, h1, h2⟩ := h.ex
  exact ⟨cs, owns_base h1 hc, h2⟩
theorem ClmF.next {x : Clm} {v : Value} (h : ClmF W w x v) (hb : Below w.heap.size w w') : ClmF W w' x v := by
  obtain ⟨ad, c, rfl, h⟩ := h; exact ⟨ad, c, rfl, h.next hb⟩
theorem ClmF.up {x : Clm} {v : Value} (h : ClmF W w x v) (hb : w0.heap.size ≤ W.heap.size) : ClmF w0 w x v := by
  obtain ⟨ad, c, rfl, h⟩ := h; exact ⟨ad, c, rfl, h.up hb⟩
theorem RowF.next {α : Type} {n : Nat} {V : World → List Value → α → Prop} {l : List α} {v : Value} (h : RowF n V W w l v) (hb : Below w.heap.size w w') : RowF n V W w' l v := ⟨h.1, h.2.next hb⟩
theorem ClsF.next {x : Cls} {v : Value} (h : ClsF W w x v) (hb : Below w.heap.size w w') : ClsF W w' x v := by
  obtain ⟨ad, c, rfl, h⟩ := h; exact ⟨ad, c, rfl, h.next hb⟩
theorem LitF.next {T : TypeId} {x : Cls} {v : Value} (h : LitF T W w x v) (hb : Below w.heap.size w w') : LitF T W w' x v := by
  obtain ⟨g, ad, c, rfl, hg, hh, h⟩ := h; exact ⟨g, ad, c, rfl, hg, hh.next hb, h.next hb⟩
theorem one_clm {w : World} {x : Clm} {v : Value} (h : ClmF W w x v) {T : TypeId}
    (k : ∀ v w', Below w.heap.size w w' → RowF 2 VClm W w' [x] v → K v w') (hW : W.heap.size ≤ w.heap.size) : oM Tryz.prog (.buildSlice 63 1 #[(0, .tmp 0)]) T [v] K w := by
  obtain ⟨ad, c, rfl, h⟩ := h
  refine lit_clm _ _ _ _ (fun g w1 h1 hg hh => k _ _ h1 ⟨⟨_, _, rfl⟩, ?_⟩)
  refine ((hh.fresh (W := W) (by omega)).both (h.next h1)).imp ?_
  rintro w2 ⟨e1, e2⟩
  exact srow_lit1 e1 rfl ⟨_, rfl, e2⟩
theorem two_clm {w : World} {x y : Clm} {v u : Value} (h : ClmF W w x v) (h2 : ClmF W w y u) {T : TypeId}
    (k : ∀ v w', Below w.heap.size w w' → RowF 2 VClm W w' [x, y] v → K v w') (hW : W.heap.size ≤ w.heap.size) : oM Tryz.prog (.buildSlice 63 2 #[(0, .tmp 0), (1, .tmp 1)]) T [v, u] K w := by
  obtain ⟨ad, c, rfl, h⟩ := h
  obtain ⟨ad2, c2, rfl, h2⟩ := h2
  refine lit_clm2 _ _ _ _ _ _ _ _ (fun g w1 h1 hg hh => k _ _ h1 ⟨⟨_, _, rfl⟩, ?_⟩)
  refine (((hh.fresh (W := W) (by omega)).both (h.next h1)).both (h2.next h1)).imp ?_
  rintro w2 ⟨⟨e1, e2⟩, e3⟩
  exact srow_lit2 e1 rfl rfl ⟨_, rfl, e2⟩ ⟨_, rfl, e3⟩
theorem build_cls (T : TypeId) (ad : Option Addr) (n c : Nat) : oM Tryz.prog (Go.Op.build 65 #[(0, (.tmp 0)), (1, (.tmp 1))]) T [.int .i64 1, .slice ad n c] = pureM (.agg #[.int .i64 1, .slice ad n c]) := by
  funext K w
  kernel_rfl
theorem cls_of {x : Cls} {v : Value} (hn : x.need = 1) (h : RowF 2 VClm W w x.claims v) : ClsF W w x (.agg #[.int .i64 1, v]) := by
  obtain ⟨⟨ad, c, rfl⟩, h⟩ := h
  refine ⟨ad, c, by rw [← hn], (h.both (Fresh.pure (p := I64 x.need) (by rw [hn]; unfold I64; omega))).imp ?_⟩
  rintro w ⟨a, b⟩
  exact ⟨b, a⟩
theorem lit_of {x : Cls} {v : Value} {T : TypeId} (h : ClsF W w x v) (hW : W.heap.size ≤ w.heap.size)
    (k : ∀ v w', Below w.heap.size w w' → LitF 65 W w' x v → K v w') : oM Tryz.prog (.buildSlice 27 1 #[(0, .tmp 0)]) T [v] K w := by
  obtain ⟨ad, c, rfl, h⟩ := h
  exact lit_cls _ _ _ _ (fun g w1 h1 hg hh => k _ _ h1 ⟨g, ad, c, rfl, by omega, hh, h.next h1⟩)
theorem cls_one (a : Int) (ad : Option Addr) (n c : Nat) : ∀ u ∈ ([.int .i64 a, .slice ad n c] : List Value), u.oneCell' = true := clm_one a ad n c
abbrev ClsG (B : Nat) (D : Nat → Prop) (w : World) (v : Value) (l : List Cls) : Prop := GRow 2 65 VCls B D w v l
def Off (D : Nat → Prop) (w : World) (v : Value) : Prop := ∀ i, D i → i < w.heap.size ∧ v.ownBlock ≠ some i
theorem Off.next {D : Nat → Prop} {v : Value} (h : Off D w v) (hb : w.heap.size ≤ w'.heap.size) : Off D w' v := fun i hi => ⟨Nat.lt_of_lt_of_le (h i hi).1 hb, (h i hi).2⟩
theorem cls_append {B : Nat} {D : Nat → Prop} {v u : Value} {l : List Cls} {x : Cls} {T : TypeId} (h : ClsG B D w v l) (hB : B ≤ w.heap.size) (hx : LitF 65 W w x u) (hD : Off D w v) (hvW : ∀ i, v.ownBlock = some i → i < W.heap.size) (hl : l.length < 1099511627776)
    (k : ∀ v' w' D', ClsG B D' w' v' (l ++ [x]) → w.grownBy w' v.ownBlock → (∀ i, v'.ownBlock = some i → v.ownBlock = some i ∨ w.heap.size ≤ i) → Off D' w' v' → K v' w') :
    oM Tryz.prog (.call { callee := .builtin .append, args := #[.tmp 0, .tmp 1], argTypes := #[27, 27] }) T [v, u] K w := by
  obtain ⟨g, ad, c, rfl, hg, hh, hf⟩ := hx
  refine grow_append (D := fun i => D i ∨ (W.heap.size ≤ i ∧ i < w.heap.size)) 27 T ((Tryz.prog.info? 65).getD default) (((Tryz.prog.info? 65).getD default).zero.getD undef) 32 (by kernel_rfl) (by kernel_rfl) (by kernel_rfl) (by kernel_rfl) (by kernel_rfl) (by kernel_rfl) (by decide) (by decide)
    (h.mono fun i hi => .inl hi) hB (xs := clsC x (.slice ad x.claims.length c)) rfl ?_ (cls_one _ _ _ _) ((hf.imp fun w h => ⟨_, rfl, h⟩).mono fun i hi => .inr hi) ?_ hl ?_
  · intro j u hj
    rw [cell_of_block hh]
    simpa using hj
  · rintro i (hi | hi)
    · exact hD i hi
    · exact ⟨hi.2, fun e => by have := hvW i e; omega⟩
  · intro v' w' h1 h2 h3 h4
    exact k v' w' _ h1 h2 h3 h4
def BtJ (s : Stp) (l : List Int) (w0 : World) (vs : List Value) (w' : World) : Prop := Below w0.heap.size w0 w' ∧ ∃ (u1 rv : Value) (i : Nat) (D : Nat → Prop), vs = [u1, rv, .int .i64 (i : Int)] ∧ i ≤ l.length ∧ ClsG w0.heap.size D w' rv ((l.map (bitC s)).take i) ∧ Off D w' rv
theorem Bits_ok (s : Stp) (l : List Int) {sv lv : Value} (hs : SetR w s sv) (hl : Ints w lv l) (k : ∀ w' v D, Below w.heap.size w w' → ClsG w.heap.size D w' v (bitsM s l) → Off D w' v → K v w') : callM Tryz.prog 68 #[stpV s sv, lv] K w := by
  apply sh_68_ok
  unfold sh_68
  have hs' := hs
  obtain ⟨ad, c, rfl⟩ := hs.ints.isSlice
  have hl' := hl
  obtain ⟨lad, lc, rfl⟩ := hl.isSlice
  refine box_kn (cs := stpC s (.slice ad s.bases.length c)) rfl (.start w) fun b1 W hk hb1 hbb => ?_
  clear hb1 hbb
  repeat (any_goals ((with_reducible refine idO ?_); (with_reducible refine oM_gen fun Kv hK=>?_); simp [go_sem, hk.cells]; refine hK _ _ ?_; clear hK; clear Kv))
  refine Weigh_ok s l (hs'.next hk.below) (hl'.next hk.below) (fun w2 h2 => ?_)
  have hk := hk.next h2
  unfold bitsM at k
  cases hw : (weighM s l).2 with
  | false =>
    rw [hw] at k
    repeat (any_goals (first
    | (with_reducible ((refine idCond ?_); refine yL ?_))
    | ((with_reducible refine idO ?_); (with_reducible refine oM_gen fun Kv hK=>?_); simp [go_sem]; refine hK _ _ ?_; clear hK; clear Kv)))
    exact k _ _ (fun _ => False) hk.below .nil (fun i h => h.elim)
  | true =>
  rw [hw, if_pos rfl] at k
  have h60 : l.length ≤ 60 := by
    unfold weighM at hw
    split at hw
    · rename_i h
      simp only [Bool.and_eq_true, decide_eq_true_eq] at h
      exact h.1.2
    · cases hw
  repeat (any_goals (first
  | (with_reducible ((refine idCond ?_); refine yM ?_))
  | ((with_reducible refine idO ?_); (with_reducible refine oM_gen fun Kv hK=>?_); simp [go_sem, hk.cells]; refine hK _ _ ?_; clear hK; clear Kv)))
  refine ⟨BtJ s l w2, (fun vs _ => match vs with | [_, _, .int _ i] => l.length - i.toNat | _ => 0), ⟨Below.refl _ _, _, _, 0, fun _ => False, rfl, by omega, .nil, fun i h => h.elim⟩, ?_⟩
  rintro _ _ w3 ⟨hb3, u1, rv, i, D, rfl, hi, hg, hD⟩
  have hk3 := hk.next hb3
  by_cases hin : i = l.length
  · rw [List.take_of_length_le (by rw [List.length_map]; omega)] at hg
    repeat (any_goals (first
    | (with_reducible ((refine idCond ?_); refine yO ?_))
    | ((with_reducible refine idO ?_); (with_reducible refine oM_gen fun Kv hK=>?_); simp [go_sem]; refine hK _ _ ?_; clear hK; clear Kv)))
    exact k _ _ D hk3.below (hg.base hk.below.size) hD
  obtain ⟨b8, o8, rfl, hb8', ca, ra, _⟩ := hl'.at (i := i) (by omega)
  repeat (any_goals (first
  | (with_reducible ((refine idCond ?_); refine yN ?_))
  | ((with_reducible refine idO ?_); (with_reducible refine oM_gen fun Kv hK=>?_); simp [go_sem, ca _ hk3.below]; (first|refine hK _ _ ?_|refine And.intro (by omega) (hK _ _ ?_)); clear hK; clear Kv)))
  have hk4 := hk3.drew
  have hg4 := hg.next (w' := { w3 with drawn := w3.drawn + 1 }) .drawn (fun i hi => (hD i hi).1)
  have hD4 : Off D { w3 with drawn := w3.drawn + 1 } rv := hD
  have hrl : ∀ i, rv.ownBlock = some i → i < ({ w3 with drawn := w3.drawn + 1 } : World).heap.size := fun i hi => (hg4.own hi).1
  have hb4 : Below w2.heap.size w2 { w3 with drawn := w3.drawn + 1 } := hb3.on .drawn
  refine ⟨Nx { w3 with drawn := w3.drawn + 1 }, Below.refl _ _, rfl, ?_⟩
  generalize ({ w3 with drawn := w3.drawn + 1 } : World) = W4 at hk4 hg4 hrl hb4 hD4 ⊢
  repeat (any_goals (first
  | (with_reducible refine pureH_in ?_)
  | ((with_reducible refine idOH ?_); (with_reducible refine oH_of ⟨_, rfl⟩ (fun W0 hW0 => by (refine oM_gen (fun Kv hK => ?_)); simp [go_sem, (hk4.next hW0).cells]; (first | exact hK _ _ ⟨rfl, rfl⟩ | exact ⟨by omega, hK _ _ ⟨rfl, rfl⟩⟩)) ?_))))
  refine ⟨Nx, ?_⟩
  refine monoR (fun v w' => ClmF W4 w' (blindedM s l[i]) v) (fun v w w1 hS h => h.next hS) ?_ ?_
  · intro w1 h1
    exact blinded_ok s l[i] (hs'.next (hk4.next h1).below) ra (fun w' v hb hf => ⟨h1.on hb, hb, hf.up h1.size⟩)
  apply monoE
  · intro w1 h1
    exact Over_ok s.g l[i] s.g.G (fun w2 h2 => ⟨h1.on h2, h2, rfl⟩)
  refine monoR (fun v w' => ClmF W4 w' (blindedM s (overG s.g l[i] s.g.G)) v) (fun v w w1 hS h => h.next hS) ?_ ?_
  · rintro w1 h1 _ rfl
    exact blinded_ok s _ (hs'.next (hk4.next h1).below) (overG_I64 _ _ _) (fun w' v hb hf => ⟨h1.on hb, hb, hf.up h1.size⟩)
  refine monoR (fun v w' => RowF 2 VClm W4 w' (bitC s l[i]).claims v) (fun v w w1 hS h => h.next hS) ?_ ?_
  · intro w1 h1 v1 hv1 v2 hv2
    exact two_clm hv1 hv2 (fun v w' hb hr => ⟨h1.on hb, hb, hr⟩) h1.size
  refine monoR (fun v w' => ClsF W4 w' (bitC s l[i]) v) (fun v w w1 hS h => h.next hS) ?_ ?_
  · intro w1 h1 v1 hv1
    obtain ⟨ad, c, rfl⟩ := hv1.1
    rw [build_cls]
    exact ⟨h1, Below.refl _ _, cls_of rfl hv1⟩
  refine monoR (fun v w' => LitF 65 W4 w' (bitC s l[i]) v) (fun v w w1 hS h => h.next hS) ?_ ?_
  · intro w1 h1 v1 hv1
    exact lit_of hv1 h1.size (fun v w' hb hr => ⟨h1.on hb, hb, hr⟩)
  rintro w9 h9 v1 _ _ rfl v2 _ v3 _ v4 _ v5 hv5
  refine cls_append (hg4.next h9 (fun i hi => (hD4 i hi).1)) (Nat.le_trans hb4.size h9.size) hv5 (hD4.next h9.size) hrl (by rw [List.length_take, List.length_map]; omega) (fun v6 w6 D6 hg6 hb6 hv6 hD6 => ?_)
  have e : (l.map (bitC s)).take i ++ [bitC s l[i]] = (l.map (bitC s)).take (i + 1) := by
    rw [List.take_add_one, List.getElem?_map, List.getElem?_eq_getElem (show i < l.length by omega)]
    rfl
  rw [e] at hg6
  repeat (any_goals ((with_reducible refine idO ?_); (with_reducible refine oM_gen fun Kv hK=>?_); simp [go_sem]; (try simp (disch := omega) only [wrapI64, wrapU8, wrapU32, wrapU64]); refine hK _ _ ?_; clear hK; clear Kv))
  exact ⟨⟨(hb4.on h9).grown hb6 (hb4.on h9).size (fun j hj => (hg4.own hj).2), _, _, i + 1, D6, rfl, by omega, hg6, hD6⟩, by show l.length - (((i + 1 : Nat) : Int)).toNat < l.length - ((i : Nat) : Int).toNat; omega⟩
end
end Go.Proofs
namespace Go.Proofs
open Go Go.Sh Go.RowKit FdSpec TkSpec CodeSpec PrSpec
set_option linter.unusedSimpArgs false
set_option linter.unusedVariables false
set_option maxRecDepth 10000
section
variable {K : Value → World → Prop} {w w' w0 W : World} {L : List (Addr × Value)}
theorem weigh_len {s : Stp} {l : List Int} (hw : (weighM s l).2 = true) : l.length ≤ 60 := by
  unfold weighM at hw
  split at hw
  · rename_i h
    simp only [Bool.and_eq_true, decide_eq_true_eq] at h
    exact h.1.2
  · cases hw
theorem bitsM_len {s : Stp} {l : List Int} : (bitsM s l).length ≤ 60 := by
  unfold bitsM
  split
  · rename_i h
    rw [List.length_map]; exact weigh_len h
  · simp
theorem Range_ok (s : Stp) (x : Int) (l : List Int) {sv lv : Value} (hs : SetR w s sv) (hx : I64 x) (hl : Ints w lv l) (k : ∀ w' v, Below w.heap.size w w' → GoalR w' v (PrSpec.rangeM s x l) → K v w') : callM Tryz.prog 40 #[stpV s sv, .int .i64 x, lv] K w := by
  apply sh_40_ok
  unfold sh_40
  have hs' := hs
  obtain ⟨ad, c, rfl⟩ := hs.ints.isSlice
  have hl' := hl
  obtain ⟨lad, lc, rfl⟩ := hl.isSlice
  refine box_kn (cs := stpC s (.slice ad s.bases.length c)) rfl (.start w) fun b1 W hk hb1 hbb => ?_
  clear hb1 hbb
  repeat (any_goals ((with_reducible refine idO ?_); (with_reducible refine oM_gen fun Kv hK=>?_); simp [go_sem, hk.cells]; refine hK _ _ ?_; clear hK; clear Kv))
  refine Weigh_ok s l (hs'.next hk.below) (hl'.next hk.below) (fun w2 h2 => ?_)
  have hk := hk.next h2
  unfold PrSpec.rangeM at k
  cases hw : (weighM s l).2 with
  | false =>
    rw [hw, Bool.false_and] at k
    repeat (any_goals (first
    | (with_reducible first|((refine idGd ?_); refine zD ?_)|((refine idPick ?_); refine yB ?_)|((refine idCond ?_); refine yL ?_))
    | ((with_reducible refine idO ?_); (with_reducible refine oM_gen fun Kv hK=>?_); simp [go_sem]; refine hK _ _ ?_; clear hK; clear Kv)))
    exact k _ _ hk.below SRow.nil
  | true =>
  rw [hw, Bool.true_and] at k
  repeat (any_goals (first
  | (with_reducible first|refine pureM_in ?_|((refine idGd ?_); refine zC ?_))
  | ((with_reducible refine idO ?_); (with_reducible refine oM_gen fun Kv hK=>?_); simp [go_sem, hk.cells]; refine hK _ _ ?_; clear hK; clear Kv)))
  refine Element_ok s.g _ hs'.grp (hs'.db.next hk.below) (fun w4 h4 => ?_)
  have hk := hk.next h4
  cases hel : elemG s.g x with
  | false =>
    rw [hel] at k
    repeat (any_goals (first
    | (with_reducible first|((refine idGd ?_); refine zC ?_)|((refine idPick ?_); refine yC ?_)|((refine idCond ?_); refine yL ?_))
    | ((with_reducible refine idO ?_); (with_reducible refine oM_gen fun Kv hK=>?_); simp [go_sem]; refine hK _ _ ?_; clear hK; clear Kv)))
    exact k _ _ hk.below SRow.nil
  | true =>
  rw [hel, if_pos rfl] at k
  generalize (weighM s l).1 = wt at *
  repeat (any_goals (first
  | (with_reducible first|((refine idGd ?_); refine zC ?_)|((refine idPick ?_); refine yC ?_)|((refine idCond ?_); refine yM ?_))
  | ((with_reducible refine idO ?_); (with_reducible refine oM_gen fun Kv hK=>?_); simp [go_sem]; refine hK _ _ ?_; clear hK; clear Kv)))
  have hk4 := hk.drew
  refine ⟨Nx { w4 with drawn := w4.drawn + 1 }, Below.refl _ _, rfl, ?_⟩
  generalize ({ w4 with drawn := w4.drawn + 1 } : World) = W4 at hk4 ⊢
  repeat (any_goals (first
  | (with_reducible refine pureH_in ?_)
  | ((with_reducible refine idOH ?_); (with_reducible refine oH_of ⟨_, rfl⟩ (fun W0 hW0 => by (refine oM_gen (fun Kv hK => ?_)); simp [go_sem, (hk4.next hW0).cells]; (first | exact hK _ _ ⟨rfl, rfl⟩ | exact ⟨by omega, hK _ _ ⟨rfl, rfl⟩⟩)) ?_))))
  refine ⟨Nx, ?_⟩
  refine monoR (fun v w' => ∃ D, ClsG W4.heap.size D w' v (bitsM s l) ∧ Off D w' v) (fun v w w1 hS h => h.imp fun D h => ⟨h.1.next hS (fun i hi => (h.2 i hi).1), h.2.next hS.size⟩) ?_ ?_
  · intro w1 h1
    refine Bits_ok s l (hs'.next (hk4.next h1).below) (hl'.next (hk4.next h1).below) (fun w' v D hb hg hD => ⟨h1.on hb, hb, D, hg.base h1.size, hD⟩)
  apply monoE
  · intro w1 h1
    exact Over_ok s.g x wt (fun w2 h2 => ⟨h1.on h2, h2, rfl⟩)
  rintro w9 h9 v1 ⟨D, hg, hD⟩ _ rfl
  have hk9 := hk4.next h9
  refine blinded_ok s (overG s.g x wt) (hs'.next hk9.below) (overG_I64 _ _ _) (fun w10 v hb10 hf => ?_)
  refine one_clm hf (fun v11 w11 h11 hr11 => ?_) hb10.size
  obtain ⟨ad11, c11, rfl⟩ := hr11.1
  rw [show ([blindedM s (overG s.g x wt)] : List Clm).length = 1 from rfl] at *
  rw [build_cls]
  have hc : ClsF w9 w11 (lastC s x wt) (.agg #[.int .i64 1, .slice ad11 1 c11]) := cls_of rfl hr11
  refine lit_of hc (Nat.le_trans hb10.size h11.size) (fun v12 w12 h12 hl12 => ?_)
  have hb12 := (hb10.on h11).on h12
  refine cls_append (hg.next hb12 (fun i hi => (hD i hi).1)) (Nat.le_trans h9.size hb12.size) hl12 (hD.next hb12.size) (fun i hi => (hg.own hi).1) (by have := bitsM_len (s := s) (l := l); omega) (fun v13 w13 D13 hg13 hb13 hv13 hD13 => ?_)
  have hk12 := (hk9.next hb12).below
  refine k _ _ (hk12.grown hb13 hk12.size (fun j hj => Nat.le_trans hk4.below.size (hg.own hj).2)) (hg13.srow (by decide) ?_)
  rw [List.length_append, List.length_singleton]
  have := bitsM_len (s := s) (l := l)
  omega
end
end Go.Proofs
namespace Go.Proofs
open Go Go.Sh Go.RowKit FdSpec TkSpec CodeSpec PrSpec
set_option linter.unusedSimpArgs false
set_option linter.unusedVariables false
set_option maxRecDepth 10000
section
variable {K : Value → World → Prop} {w w' w0 W : World} {L : List (Addr × Value)}
theorem splitL_fst (s : Stp) (v : Int) : ∀ (l : List Int) (k i : Nat), (splitL s v k l).1[i]? = l[i]?.map fun r => commitM s (bitOf v (k + i)) r
  | [], k, i => by simp [splitL]
  | r :: l, k, 0 => by simp [splitL]
  | r :: l, k, i + 1 => by
    have := splitL_fst s v l (k + 1) i
    simp only [splitL, List.getElem?_cons_succ, this]
    rw [show k + 1 + i = k + (i + 1) by omega]
theorem splitL_snd (s : Stp) (v : Int) : ∀ (l : List Int) (k i : Nat), (splitL s v k l).2[i]? = l[i]?.map fun r => knwOf (bitOf v (k + i)) r
  | [], k, i => by simp [splitL]
  | r :: l, k, 0 => by simp [splitL]
  | r :: l, k, i + 1 => by
    have := splitL_snd s v l (k + 1) i
    simp only [splitL, List.getElem?_cons_succ, this]
    rw [show k + 1 + i = k + (i + 1) by omega]
theorem splitL_len (s : Stp) (v : Int) : ∀ (l : List Int) (k : Nat), (splitL s v k l).1.length = l.length ∧ (splitL s v k l).2.length = l.length
  | [], k => by simp [splitL]
  | r :: l, k => by have := splitL_len s v l (k + 1); simp [splitL, this]
theorem take_snoc2 {α : Type} {al : List α} {i : Nat} {x : α} (h : al[i]? = some x) : al.take i ++ [x] = al.take (i + 1) := by
  rw [List.take_add_one, h]; rfl
theorem prodL_I64 (g : Grp) : ∀ (l : List (Int × Int)) (o : Int), I64 o → I64 (prodL g o l)
  | [], o, h => h
  | (b, e) :: l, o, h => prodL_I64 g l _ (mulM_I64 _ _ _)
theorem prodG_I64 (g : Grp) (bs es : List Int) : I64 (prodG g bs es).1 := by
  unfold prodG
  split
  · rename_i h
    refine prodL_I64 g _ _ (I64_of ⟨Int.emod_nonneg _ ?_, Int.emod_lt_of_pos _ ?_⟩ h.1) <;> have := h.1 <;> unfold okN at this <;> omega
  · exact I64_0
theorem commitM_I64 (s : Stp) (v r : Int) : I64 (commitM s v r) := by
  unfold commitM
  split
  · exact prodG_I64 _ _ _
  · exact I64_0
theorem bitOf_01 (v : Int) (k : Nat) : bitOf v k = 0 ∨ bitOf v k = 1 := by unfold bitOf; omega
theorem make_knw (T : TypeId) (k : ∀ g W, Below w.heap.size w W → w.heap.size ≤ g → Holds W g 113 [.bool false, .slice none 0 0, .bool false, .slice none 0 0] → K (.slice (some ⟨g, 0, none⟩) 2 2) W) : oM Tryz.prog (.makeSlice 114 (.tmp 0) (.tmp 1)) T [.int .i64 2, .int .i64 2] K w := by
  rw [oM_makeSlice]; exact lit_run (by kernel_rfl) k
theorem sz_knw (w : World) : (sizeOf 113).run Tryz.prog w = .ok 2 w := by kernel_rfl
theorem idx_knw (T : TypeId) (b o n c : Nat) (x : Int) : oM Tryz.prog (.indexAddr 114 (.tmp 0) (.tmp 1)) T [.slice (some ⟨b, o, none⟩) n c, .int .i64 x] = onM (0 ≤ x ∧ x < n) (.pointer (some ⟨b, o + x.toNat * 2, none⟩)) :=
  idx_row (K := fun _ _ => True) _ T (by kernel_rfl) (fun w => by kernel_rfl) b o n c x
theorem knw_one (a : Bool) (ad : Option Addr) (n c : Nat) : ∀ u ∈ ([.bool a, .slice ad n c] : List Value), u.oneCell' = true := by
  intro u hu
  simp only [List.mem_cons, List.not_mem_nil, or_false] at hu
  rcases hu with rfl | rfl <;> rfl
theorem row_one (ad : Option Addr) (n c : Nat) : ∀ u ∈ ([.slice ad n c] : List Value), u.oneCell' = true := by
  intro u hu
  simp only [List.mem_cons, List.not_mem_nil, or_false] at hu
  rcases hu with rfl; rfl
abbrev KnwG (B : Nat) (D : Nat → Prop) (w : World) (v : Value) (l : List (List Knw)) : Prop := GRow 1 114 (VOne KnwsR) B D w v l
theorem know_store {g : Nat} {b r : Int} {ad : Option Addr} {n c : Nat} {T T2 : TypeId} (hb : b = 0 ∨ b = 1) (hh : Holds w g 113 [.bool false, .slice none 0 0, .bool false, .slice none 0 0]) (hi : Ints w (.slice ad n c) [r]) (hg : W.heap.size ≤ g)
    (hoff : ∀ i, Value.inBlock (.slice ad n c) = some i → W.heap.size ≤ i ∧ i ≠ g)
    (k : ∀ w', w.grownBy w' (some g) → Fresh W w' (fun w => KnwsR w (.slice (some ⟨g, 0, none⟩) 2 2) (knwOf b r)) → K undef w') :
    oM Tryz.prog (.indexAddr 114 (.tmp 0) (.tmp 1)) T [.slice (some ⟨g, 0, none⟩) 2 2, .int .i64 b] (fun v w => oM Tryz.prog (.store 113 (.tmp 0) (.tmp 1)) T2 [v, .agg #[.bool true, .slice ad n c]] K w) w := by
  rw [idx_knw]
  refine ⟨by omega, ?_⟩
  have hint : ∀ w', w.grownBy w' (some g) → Fresh W w' (fun w => Ints w (.slice ad n c) [r]) := fun w' hg' =>
    Ints.fresh ⟨hi.row.keep hg'.size (fun i e hlt => hg'.block i hlt (fun e2 => (hoff i e).2 (by first | exact Option.some.inj e2 | exact (Option.some.inj e2).symm))), hi.rng, hi.len⟩ (fun i e => (hoff i e).1)
  rcases hb with rfl | rfl
  · refine arr_storeRow (o := 0) (xs := [.bool true, .slice ad n c]) sz_knw rfl rfl (knw_one true ad n c) hh (by decide) (fun w' h1 h2 => k w' h1 ?_)
    refine ((h2.fresh (W := W) hg).both (hint w' h1)).imp ?_
    rintro w2 ⟨e1, e2⟩
    exact srow_lit2 (xs := [.bool true, .slice ad n c]) (ys := [.bool false, .slice none 0 0]) e1 rfl rfl ⟨_, rfl, e2⟩ ⟨_, rfl, Ints.nil _⟩
  · refine arr_storeRow (o := 2) (xs := [.bool true, .slice ad n c]) sz_knw rfl rfl (knw_one true ad n c) hh (by decide) (fun w' h1 h2 => k w' h1 ?_)
    refine ((h2.fresh (W := W) hg).both (hint w' h1)).imp ?_
    rintro w2 ⟨e1, e2⟩
    exact srow_lit2 (xs := [.bool false, .slice none 0 0]) (ys := [.bool true, .slice ad n c]) e1 rfl rfl ⟨_, rfl, Ints.nil _⟩ ⟨_, rfl, e2⟩
theorem build_knw (T : TypeId) (ad : Option Addr) (n c : Nat) : oM Tryz.prog (Go.Op.build 113 #[(0, (.tmp 0)), (1, (.tmp 1))]) T [.bool true, .slice ad n c] = pureM (.agg #[.bool true, .slice ad n c]) := by
  funext K w
  kernel_rfl
theorem knws_append {B g c : Nat} {D E : Nat → Prop} {v : Value} {l : List (List Knw)} {x : List Knw} {T : TypeId} (h : KnwG B D w v l) (hB : B ≤ w.heap.size) {b : Nat} {ad : Option Addr} {n : Nat} (hh : Holds w b 114 [.slice ad n c])
    (hx : FP E w (fun w => KnwsR w (.slice ad n c) x)) (hD : Off D w v) (hE : Off E w v) (hl : l.length < 1099511627776)
    (k : ∀ v' w', KnwG B (fun i => D i ∨ E i) w' v' (l ++ [x]) → w.grownBy w' v.ownBlock → (∀ i, v'.ownBlock = some i → v.ownBlock = some i ∨ w.heap.size ≤ i) → Off (fun i => D i ∨ E i) w' v' → K v' w') :
    oM Tryz.prog (.call { callee := .builtin .append, args := #[.tmp 0, .tmp 1], argTypes := #[28, 28] }) T [v, .slice (some ⟨b, 0, none⟩) 1 g] K w := by
  refine grow_append (D := fun i => D i ∨ E i) 28 T ((Tryz.prog.info? 114).getD default) (.slice none 0 0) 24 (by kernel_rfl) (by kernel_rfl) (by kernel_rfl) (by kernel_rfl) (by kernel_rfl) (by kernel_rfl) (by decide) (by decide)
    (h.mono fun i hi => .inl hi) hB (xs := [.slice ad n c]) rfl ?_ (row_one _ _ _) ((hx.imp fun w h => ⟨_, rfl, h⟩).mono fun i hi => .inr hi) ?_ hl k
  · intro j u hj
    rw [cell_of_block hh]
    simpa using hj
  · rintro i (hi | hi)
    · exact hD i hi
    · exact hE i hi
def SpJ (s : Stp) (v : Int) (l : List Int) (w0 : World) (vs : List Value) (w' : World) : Prop := Below w0.heap.size w0 w' ∧ ∃ (u1 u2 u3 u4 bv kv : Value) (i : Nat) (D : Nat → Prop), vs = [u1, u2, u3, u4, bv, kv, .int .i64 (i : Int)] ∧ i ≤ l.length ∧
  OwnI w' w0.heap.size bv ((splitL s v 0 l).1.take i) ∧ KnwG w0.heap.size D w' kv ((splitL s v 0 l).2.take i) ∧ Off D w' bv ∧ Off D w' kv ∧ apart bv kv
theorem Split_ok (s : Stp) (v : Int) (l : List Int) {sv lv : Value} (hs : SetR w s sv) (hv : I64 v) (hl : Ints w lv l) (k : ∀ w' bv kv D, Below w.heap.size w w' → Ints w' bv (splitM s v l).1.1 → KnwG w.heap.size D w' kv (splitM s v l).1.2 → Off D w' kv → (∀ i, Value.inBlock bv = some i → kv.ownBlock ≠ some i) → K (.tuple #[bv, kv, .bool (splitM s v l).2]) w') : callM Tryz.prog 76 #[stpV s sv, .int .i64 v, lv] K w := by
  apply sh_76_ok
  unfold sh_76
  have hs' := hs
  obtain ⟨ad, c, rfl⟩ := hs.ints.isSlice
  have hl' := hl
  obtain ⟨lad, lc, rfl⟩ := hl.isSlice
  refine box_kn (cs := stpC s (.slice ad s.bases.length c)) rfl (.start w) fun b1 W hk hb1 hbb => ?_
  clear hb1 hbb
  repeat (any_goals ((with_reducible refine idO ?_); (with_reducible refine oM_gen fun Kv hK=>?_); simp [go_sem, hk.cells]; refine hK _ _ ?_; clear hK; clear Kv))
  refine ValidSetup_ok s (hs'.next hk.below) (fun w2 h2 => ?_)
  have hk := hk.next h2
  have hno : splitFine s v l = false → ∀ w', Below w.heap.size w w' → K (.tuple #[.slice none 0 0, .slice none 0 0, .bool false]) w' := fun e w' hb => by
    have := k w' (.slice none 0 0) (.slice none 0 0) (fun _ => False) hb
    unfold splitM at this
    rw [e] at this
    exact this (Ints.nil _) .nil (fun i h => h.elim) (fun i h => by cases h)
  have eF : splitFine s v l = (validS s && decide (1 ≤ l.length) && decide (l.length ≤ 60) && exponentsM s l l.length && decide (0 ≤ v) && decide (v < 2 ^ l.length)) := rfl
  cases hvs : validS s with
  | false =>
    rw [hvs] at eF
    repeat (any_goals (first
    | (with_reducible first|((refine idGd ?_); refine zD ?_)|((refine idPick ?_); refine yB ?_)|((refine idCond ?_); refine yL ?_))
    | ((with_reducible refine idO ?_); (with_reducible refine oM_gen fun Kv hK=>?_); simp [go_sem]; refine hK _ _ ?_; clear hK; clear Kv)))
    exact hno (by rw [eF]; simp) _ hk.below
  | true =>
  by_cases h1 : (l.length : Int) < 1
  · repeat (any_goals (first
    | (with_reducible first|refine pureM_in ?_|((refine idGd ?_); first|refine zC ?_|refine zD ?_)|((refine idPick ?_); first|refine yB ?_|refine yC ?_)|((refine idCond ?_); refine yL ?_))
    | ((with_reducible refine idO ?_); (with_reducible refine oM_gen fun Kv hK=>?_); simp [go_sem, h1]; refine hK _ _ ?_; clear hK; clear Kv)))
    exact hno (by rw [eF, decide_eq_false (by omega : ¬ 1 ≤ l.length)]; simp) _ hk.below
  by_cases h6 : (60 : Int) < l.length
  · repeat (any_goals (first
    | (with_reducible first|refine pureM_in ?_|((refine idGd ?_); first|refine zC ?_|refine zD ?_)|((refine idPick ?_); first|refine yB ?_|refine yC ?_)|((refine idCond ?_); refine yL ?_))
    | ((with_reducible refine idO ?_); (with_reducible refine oM_gen fun Kv hK=>?_); simp [go_sem, h1, h6]; refine hK _ _ ?_; clear hK; clear Kv)))
    exact hno (by rw [eF, decide_eq_false (by omega : ¬ l.length ≤ 60)]; simp) _ hk.below
  repeat (any_goals (first
  | (with_reducible first|refine pureM_in ?_|((refine idGd ?_); refine zC ?_)|((refine idPick ?_); refine yC ?_))
  | ((with_reducible refine idO ?_); (with_reducible refine oM_gen fun Kv hK=>?_); simp [go_sem, hk.cells, h1, h6]; refine hK _ _ ?_; clear hK; clear Kv)))
  refine exponents_ok s l.length (hs'.next hk.below) (hl'.next hk.below) (fun w3 h3 => ?_)
  have hk := hk.next h3
  cases hex : exponentsM s l l.length with
  | false =>
    rw [hex] at eF
    repeat (any_goals (first
    | (with_reducible first|((refine idGd ?_); first|refine zC ?_|refine zD ?_)|((refine idPick ?_); first|refine yB ?_|refine yC ?_)|((refine idCond ?_); refine yL ?_))
    | ((with_reducible refine idO ?_); (with_reducible refine oM_gen fun Kv hK=>?_); simp [go_sem]; refine hK _ _ ?_; clear hK; clear Kv)))
    exact hno (by rw [eF]; simp) _ hk.below
  | true =>
  by_cases h0 : v < 0
  · repeat (any_goals (first
    | (with_reducible first|refine pureM_in ?_|((refine idGd ?_); first|refine zC ?_|refine zD ?_)|((refine idPick ?_); first|refine yB ?_|refine yC ?_)|((refine idCond ?_); refine yL ?_))
    | ((with_reducible refine idO ?_); (with_reducible refine oM_gen fun Kv hK=>?_); simp [go_sem, h0]; refine hK _ _ ?_; clear hK; clear Kv)))
    exact hno (by rw [eF, decide_eq_false (by omega : ¬ 0 ≤ v)]; simp) _ hk.below
  repeat (any_goals (first
  | (with_reducible first|refine pureM_in ?_|((refine idGd ?_); refine zC ?_)|((refine idPick ?_); refine yC ?_))
  | ((with_reducible refine idO ?_); (with_reducible refine oM_gen fun Kv hK=>?_); simp [go_sem, h0]; refine hK _ _ ?_; clear hK; clear Kv)))
  refine shlI (by omega) ?_
  by_cases hg : 2 ^ l.length ≤ v
  · repeat (any_goals (first
    | (with_reducible first|((refine idGd ?_); refine zC ?_)|((refine idPick ?_); refine yC ?_)|((refine idCond ?_); refine yL ?_))
    | ((with_reducible refine idO ?_); (with_reducible refine oM_gen fun Kv hK=>?_); simp [go_sem, hg]; refine hK _ _ ?_; clear hK; clear Kv)))
    exact hno (by rw [eF, decide_eq_false (by omega : ¬ v < 2 ^ l.length)]; simp) _ hk.below
  repeat (any_goals (first
  | (with_reducible first|((refine idGd ?_); refine zC ?_)|((refine idPick ?_); refine yC ?_)|((refine idCond ?_); refine yM ?_))
  | ((with_reducible refine idO ?_); (with_reducible refine oM_gen fun Kv hK=>?_); simp [go_sem, hg]; refine hK _ _ ?_; clear hK; clear Kv)))
  have eS : splitM s v l = (splitL s v 0 l, true) := by
    unfold splitM
    rw [if_pos]
    rw [eF, hvs, hex, decide_eq_true (by omega : 1 ≤ l.length), decide_eq_true (by omega : l.length ≤ 60), decide_eq_true (by omega : 0 ≤ v), decide_eq_true (by omega : v < 2 ^ l.length)]
    rfl
  rw [eS] at k
  clear hno eF
  have hlen := splitL_len s v l 0
  refine ⟨SpJ s v l w3, (fun vs _ => match vs with | [_, _, _, _, _, _, .int _ i] => l.length - i.toNat | _ => 0), ⟨Below.refl _ _, _, _, _, _, _, _, 0, fun _ => False, rfl, by omega, own_none, .nil, fun i h => h.elim, fun i h => h.elim, fun i h => by cases h⟩, ?_⟩
  rintro _ _ w4 ⟨hb4, u1, u2, u3, u4, bv, kv, i, D, rfl, hi, ho, hg4, hDb, hDk, hap⟩
  have hk4 := hk.next hb4
  by_cases hin : i = l.length
  · rw [List.take_of_length_le (by omega)] at ho hg4
    repeat (any_goals (first
    | (with_reducible ((refine idCond ?_); refine yO ?_))
    | ((with_reducible refine idO ?_); (with_reducible refine oM_gen fun Kv hK=>?_); simp [go_sem]; refine hK _ _ ?_; clear hK; clear Kv)))
    refine k w4 bv kv D hk4.below (ho.ints (fun n hn => ?_) (by omega)) (hg4.base hk.below.size) hDk (fun j e1 e2 => ?_)
    · obtain ⟨j, hj, rfl⟩ := List.getElem_of_mem hn
      have := splitL_fst s v l 0 j
      rw [List.getElem?_eq_getElem hj, List.getElem?_eq_getElem (by omega)] at this
      rw [Option.some.inj this]
      exact commitM_I64 _ _ _
    · rcases ho.2 with ⟨rfl, _⟩ | ⟨g', cap, cur, rfl, _⟩
      · cases e1
      · cases e1
        exact hap _ rfl e2
  obtain ⟨b8, o8, rfl, hb8', ca, ra, _⟩ := hl'.at (i := i) (by omega)
  iterate 4 (any_goals (first
  | (with_reducible ((refine idCond ?_); refine yN ?_))
  | ((with_reducible refine idO ?_); (with_reducible refine oM_gen fun Kv hK=>?_); simp [go_sem, ca _ hk4.below]; (first|refine hK _ _ ?_|refine And.intro (by omega) (hK _ _ ?_)); clear hK; clear Kv)))
  refine shrI (by omega) ?_
  have hp : (0 : Int) < 2 ^ i := Int.pow_pos (by decide)
  have hd0 : 0 ≤ v / 2 ^ i := Int.ediv_nonneg (by omega) (by omega)
  have hd1 : v / 2 ^ i ≤ v := Int.ediv_le_self _ (by omega)
  refine andI ⟨hd0, by have := hv.2; omega⟩ ?_
  have e1 := splitL_fst s v l 0 i
  have e2 := splitL_snd s v l 0 i
  rw [List.getElem?_eq_getElem (show i < l.length by omega), Option.map_some, Nat.zero_add] at e1 e2
  have hb01 := bitOf_01 v i
  have ebit : v / 2 ^ i % 2 = bitOf v i := rfl
  rw [ebit]
  generalize bitOf v i = b at *
  generalize l[i] = r at *
  refine make_knw _ (fun g5 w5 h5 hg5 hh5 => ?_)
  refine mk1g r ra (fun v6 w6 h6 hi6 hb6 => ?_)
  obtain ⟨ad6, c6, rfl⟩ := hi6.isSlice
  rw [show ([r] : List Int).length = 1 from rfl] at *
  rw [build_knw]
  have hh6 := hh5.next h6
  have hs5 := h5.size
  have hlt5 := hh5.lt
  refine know_store (W := w4) hb01 hh6 hi6 hg5 (fun j hj => ?_) (fun w7 h7 hf7 => ?_)
  · rw [hb6] at hj
    have : w5.heap.size = j := Option.some.inj hj
    omega
  have hb47 : Below w4.heap.size w4 w7 := (h5.on h6).grown h7 (h5.on h6).size (fun j hj => by have : g5 = j := Option.some.inj hj; omega)
  have hk7 := hk4.next hb47
  iterate 1 (any_goals ((with_reducible refine idO ?_); (with_reducible refine oM_gen fun Kv hK=>?_); simp [go_sem, hk7.cells]; refine hK _ _ ?_; clear hK; clear Kv))
  refine Commit_ok s b r (hs'.next hk7.below) (by unfold I64; omega) ra (fun w8 h8 => ?_)
  have hb48 := hb47.on h8
  refine mk1g _ (commitM_I64 s b r) (fun v9 w9 h9 hi9 _ => ?_)
  have hb49 := hb48.on h9
  have ho9 := ho.keep hb49
  have hoo := fun j hj => owns_own (i := j) ho hj
  have hkk := fun j hj => hg4.own (i := j) hj
  refine append1g ho9 (Nat.le_trans hb4.size hb49.size) hi9 (by rw [List.length_take]; omega) (fun bv' w10 ho10 hg10 hv10 => ?_)
  rw [take_snoc' e1] at ho10
  have hbF := Fr.of_by' hg10
  have hg10' := (hg4.next hb49 (fun i hi => (hDk i hi).1)).keep hbF (fun j hj => ⟨Nat.lt_of_lt_of_le (hDb j hj).1 hb49.size, (hDb j hj).2⟩) (fun j hj e => hap j e hj)
  have hb410 := hb49.size
  have h10s := hg10.size
  have hf10 : FP (fun i => w4.heap.size ≤ i ∧ i < w7.heap.size) w10 (fun w => KnwsR w (.slice (some ⟨g5, 0, none⟩) 2 2) (knwOf b r)) :=
    (FP.next hf7 (h8.on h9) (fun j hj => hj.2)).by hg10 (fun j hj => ⟨Nat.lt_of_lt_of_le hj.2 (h8.on h9).size, fun e => by have := (hoo j e).1; omega⟩)
  have h79 := (h8.on h9).size
  refine lit_knws _ _ _ (fun g11 w11 h11 hg11 hh11 => ?_)
  have hg11' := hg10'.next h11 (fun j hj => by have := (hDk j hj).1; omega)
  have h11s := h11.size
  have h47 := hb47.size
  have hb4s := hb4.size
  refine knws_append hg11' (by omega) hh11 (hf10.next h11 (fun j hj => by have := hj.2; omega)) (fun j hj => ⟨by have := (hDk j hj).1; omega, (hDk j hj).2⟩) (fun j hj => ⟨by have := hj.2; omega, fun e => by have := (hkk j e).1; have := hj.1; omega⟩) (by rw [List.length_take]; omega) (fun kv' w12 hg12 hb12 hv12 hD12 => ?_)
  rw [take_snoc2 e2] at hg12
  have h12s := hb12.size
  repeat (any_goals ((with_reducible refine idO ?_); (with_reducible refine oM_gen fun Kv hK=>?_); simp [go_sem]; (try simp (disch := omega) only [wrapI64, wrapU8, wrapU32, wrapU64]); refine hK _ _ ?_; clear hK; clear Kv))
  have hlt10 := fun j hj => (owns_own (i := j) ho10 hj)
  refine ⟨⟨((hb4.on hb49).grown hg10 (hb4.on hb49).size (fun j hj => (hoo j hj).2.1)).trans ((h11.mono (by omega)).grown hb12 (by omega) (fun j hj => (hkk j hj).2)), _, _, _, _, _, _, i + 1, _, rfl, by omega, ?_, hg12, ?_, hD12, ?_⟩, by show l.length - (((i + 1 : Nat) : Int)).toNat < l.length - ((i : Nat) : Int).toNat; omega⟩
  · refine owns_keep (ho10.keep h11) (fun j hj => hb12.block j (by have := (hlt10 j hj).1; omega) (fun e => ?_))
    have e' : kv.ownBlock = some j := by first | exact e | exact e.symm
    rcases hv10 j hj with h | h
    · exact hap j h e'
    · have := (hkk j e').1; omega
  · rintro j (hj | hj)
    · refine ⟨by have := (hDb j hj).1; omega, fun e => ?_⟩
      rcases hv10 j e with h | h
      · exact (hDb j hj).2 h
      · have := (hDb j hj).1; omega
    · refine ⟨by have := hj.2; omega, fun e => ?_⟩
      rcases hv10 j e with h | h
      · have := (hoo j h).1; have := hj.1; omega
      · have := hj.2; omega
  · intro j e1 e2
    rcases hv12 j e2 with h | h
    · rcases hv10 j e1 with h' | h'
      · exact hap j h' h
      · have := (hkk j h).1; omega
    · have := (hlt10 j e1).1; omega
end
end Go.Proofs
namespace Go.Proofs
open Go Go.Sh Go.RowKit FdSpec TkSpec CodeSpec PrSpec
set_option linter.unusedSimpArgs false
set_option linter.unusedVariables false
set_option maxRecDepth 10000
section
variable {K : Value → World → Prop} {w w' w0 W : World} {L : List (Addr × Value)}
theorem InR_iff (n : Int) : InR n ↔ I64 n := by unfold InR I64; omega
theorem _root_.Go.Sh.Ints.rowOf {v : Value} {l : List Int} (h : Ints w v l) : Cd.RowOf Cd.intV w v l := by
  obtain ⟨⟨ad, c, rfl, h0, hc⟩, hr, hl⟩ := h
  refine ⟨ad, c, rfl, hc.imp id ?_⟩
  rintro ⟨b, o, rfl, hlt, hcell⟩
  exact ⟨b, o, rfl, hlt, fun i hi => hcell i _ (by rw [flat_int]; simp [hi, Cd.intV])⟩
theorem sz_grp (w : World) : (sizeOf 23).run Tryz.prog w = .ok 3 w := by kernel_rfl
theorem al_grp (w : World) : (Instr.alloc 23 true (.tuple #[])).run Tryz.prog w = .ok (.pointer (some ⟨w.heap.size, 0, none⟩)) (w.alloc (.cells [.int .i64 0, .int .i64 0, .int .i64 0].toArray 23)) := by kernel_rfl
@[reducible] def grpCs (g : Grp) : List Value := [.int .i64 g.P, .int .i64 g.Q, .int .i64 g.G]
theorem grp_one (g : Grp) : ∀ u ∈ grpCs g, u.oneCell' = true := by
  intro u hu
  simp only [grpCs, List.mem_cons, List.not_mem_nil, or_false] at hu
  rcases hu with rfl | rfl | rfl <;> rfl
theorem local_grpM {K : Value → World → Prop} {T' T2 : TypeId} {g n : Nat} (t : Grp) (hk : KnM w0 L g n w)
    (k : ∀ b W, KnM w0 (cellsOf L b 0 (grpCs t)) g n W → Below w.heap.size w W → w.heap.size ≤ b → K (.pointer (some ⟨b, 0, none⟩)) W) :
    oM Tryz.prog (.alloc 23) T' [] (fun v w => oM Tryz.prog (.store 23 (.tmp 0) (.tmp 1)) T2 [v, grpV t] (fun _ w => K v w) w) w :=
  local_knm al_grp rfl sz_grp rfl rfl (grp_one t) hk k
theorem local_grp {K : Value → World → Prop} {T' T2 : TypeId} (t : Grp) (hk : Kn w0 L w)
    (k : ∀ b W, Kn w0 (cellsOf L b 0 (grpCs t)) W → Below w.heap.size w W → w.heap.size ≤ b → K (.pointer (some ⟨b, 0, none⟩)) W) :
    oM Tryz.prog (.alloc 23) T' [] (fun v w => oM Tryz.prog (.store 23 (.tmp 0) (.tmp 1)) T2 [v, grpV t] (fun _ w => K v w) w) w :=
  local_kn al_grp rfl sz_grp rfl rfl (grp_one t) hk k
@[reducible] def sigC (c z : Int) : List Value := [.int .i64 c, .int .i64 z]
@[reducible] def sigV (c z : Int) : Value := .agg #[.int .i64 c, .int .i64 z]
theorem sz_sig (w : World) : (sizeOf 74).run Tryz.prog w = .ok 2 w := by kernel_rfl
theorem al_sig (w : World) : (Instr.alloc 74 true (.tuple #[])).run Tryz.prog w = .ok (.pointer (some ⟨w.heap.size, 0, none⟩)) (w.alloc (.cells [.int .i64 0, .int .i64 0].toArray 74)) := by kernel_rfl
theorem sig_one (c z : Int) : ∀ u ∈ sigC c z, u.oneCell' = true := by
  intro u hu
  simp only [sigC, List.mem_cons, List.not_mem_nil, or_false] at hu
  rcases hu with rfl | rfl <;> rfl
theorem build_sig2 (T : TypeId) (a b : Int) : oM Tryz.prog (Go.Op.build 74 #[(0, (.tmp 0)), (1, (.tmp 1))]) T [.int .i64 a, .int .i64 b] = pureM (sigV a b) := by
  funext K w
  kernel_rfl
theorem pub_len {a b : Int} (ha : I64 a) (hb : I64 b) : (encNums [a, b]).length ≤ 100 := by
  have h1 := Cd.encInt_len a ((InR_iff a).2 ha)
  have h2 := Cd.encInt_len b ((InR_iff b).2 hb)
  have h3 : (Lib.itoa ((0 + 1 + 1 : Nat) : Int)).length ≤ 20 := itoa_len 2 (by unfold InR; omega)
  simp only [encNums, encList, List.map_cons, List.map_nil, List.length_cons, List.length_nil, List.flatten_cons, List.flatten_nil, List.length_append, List.append_nil] at *
  omega
theorem challenge_ok (s : Stp) (pub a : Int) (msg : Bytes) {v : Value} (hs : SetR w s v) (hl : Cd.Laid w) (hp : I64 pub) (ha : I64 a) (hm : msg.length ≤ 1000) (k : ∀ w', Below w.heap.size w w' → K (.int .i64 (chalM s pub a msg)) w') :
    callM Tryz.prog 128 #[stpV s v, .int .i64 pub, .int .i64 a, .string ⟨msg.toArray⟩] K w := by
  apply sh_128_ok
  unfold sh_128
  obtain ⟨ad, c, rfl⟩ := hs.ints.isSlice
  refine box_kn (cs := stpC s (.slice ad s.bases.length c)) rfl (.start w) fun b W hk hb1 hb => ?_
  have hk := hk.drew
  have hl4 := hl.below hk.below hl.size
  refine ⟨Nx { W with drawn := W.drawn + 1 }, Below.refl _ _, rfl, ?_⟩
  generalize ({ W with drawn := W.drawn + 1 } : World) = W at hk hl4 ⊢
  have elen := Cd.encText_len msg (by omega)
  have plen := pub_len hp ha
  repeat (any_goals (first
  | (with_reducible refine pureH_in ?_)
  | ((with_reducible refine idOH ?_); (with_reducible refine oH_of ⟨_, rfl⟩ (fun W0 hW0 => by (refine oM_gen (fun Kv hK => ?_)); simp [go_sem, (hk.next hW0).cells]; (first | exact hK _ _ ⟨rfl, rfl⟩ | exact ⟨by omega, hK _ _ ⟨rfl, rfl⟩⟩)) ?_))))
  refine ⟨Nx, ?_⟩
  apply monoE
  · intro w1 h1
    exact Cd.pText_ok msg (by omega) (hl4.below h1 hl4.size) (fun w2 h2 => ⟨h1.on h2, h2, rfl⟩)
  refine monoR (fun v w' => Ints w' v [pub, a]) (fun v w w1 hS h => h.next hS) ?_ ?_
  · intro w1 h1
    exact mk2 _ _ hp ha (fun v w2 h2 hi => ⟨h1.on h2, h2, hi⟩)
  apply monoE
  · intro w1 h1 v1 hi1
    exact Cd.pNums_ok [pub, a] v1 (hl4.below h1 hl4.size) (Ints.rowOf hi1) (fun x hx => (InR_iff x).2 (hi1.rng x hx)) (by unfold encNums at plen; omega) (fun w2 h2 => ⟨h1.on h2, h2, rfl⟩)
  refine monoR (fun v w' => v = .string ⟨(encText msg ++ encNums [pub, a]).toArray⟩) (fun v w w1 hS h => h) ?_ ?_
  · rintro w1 h1 _ rfl _ rfl
    rw [oM_adds]
    refine ⟨?_, h1, Below.refl _ _, ?_⟩
    · have e1 : (ByteArray.mk (encText msg).toArray).size = (encText msg).length := by simp [ByteArray.size]
      have e2 : (ByteArray.mk (encList (List.map encInt [pub, a])).toArray).size = (encNums [pub, a]).length := by simp [ByteArray.size, encNums]
      rw [e1, e2]
      omega
    · show Value.string (ByteArray.mk (encText msg).toArray ++ ByteArray.mk (encList (List.map encInt [pub, a])).toArray) = _
      refine congrArg Value.string ?_
      apply ByteArray.ext
      simp [encNums]
  rintro w9 h9 _ rfl v1 _ _ rfl _ rfl
  refine Number_ok _ _ (by rw [List.length_append]; omega) (fun w4 h4 => ?_)
  exact k _ (hk.next (h9.on h4)).below
theorem Sign_ok (s : Stp) (x kk : Int) (msg : Bytes) {v : Value} (hs : SetR w s v) (hl : Cd.Laid w) (hx : I64 x) (hkk : I64 kk) (hm : msg.length ≤ 1000)
    (k : ∀ w', Below w.heap.size w w' → K (.tuple #[sigV (signM s x kk msg).1.1 (signM s x kk msg).1.2, .bool (signM s x kk msg).2]) w') :
    callM Tryz.prog 45 #[stpV s v, .int .i64 x, .int .i64 kk, .string ⟨msg.toArray⟩] K w := by
  apply sh_45_ok
  unfold sh_45
  have hs' := hs
  obtain ⟨ad, c, rfl⟩ := hs.ints.isSlice
  refine box_kn (cs := stpC s (.slice ad s.bases.length c)) rfl (.start w) fun b1 W hk hb1 hbb => ?_
  refine alloc_mine (n := 2) al_sig rfl hk fun g0 W3 hk hb3 hg0 => ?_
  clear hb1 hb3 hbb
  repeat (any_goals ((with_reducible refine idO ?_); (with_reducible refine oM_gen fun Kv hK=>?_); simp [go_sem, hk.cells]; refine hK _ _ ?_; clear hK; clear Kv))
  refine ValidSetup_ok s (hs'.next hk.below) (fun w2 h2 => ?_)
  have hk := hk.next h2
  clear h2
  unfold signM at k
  have bad : (validS s && exponentM s x && exponentM s kk) = false → ∀ w2 (hk : KnM w (cellsOf [] b1 0 (stpC s (.slice ad s.bases.length c))) g0 2 w2),
      oM Tryz.prog (Go.Op.store 74 (.tmp 0) (.tmp 1)) 0 [.pointer (some ⟨g0, 0, none⟩), sigV 0 0] (fun _ w =>
        ∃ r, (do loadVar 74 (← asAddr (.pointer (some ⟨g0, 0, none⟩))) : Sem Value).run Tryz.prog w = .ok r w ∧ K (.tuple #[r, (.bool false)]) w) w2 := fun e w2 hk => by
    rw [e] at k
    exact store_mine sz_sig rfl rfl (sig_one 0 0) hk (fun W3 hk hc => ⟨_, by simp [go_sem, hc], k _ hk.below⟩)
  cases hvs : validS s with
  | false =>
    repeat (any_goals (first
    | (with_reducible first|((refine idGd ?_); refine zD ?_)|((refine idPick ?_); refine yB ?_)|((refine idCond ?_); refine yL ?_))
    | ((with_reducible refine idO ?_); (with_reducible refine oM_gen fun Kv hK=>?_); simp [go_sem, hk.cells]; refine hK _ _ ?_; clear hK; clear Kv)))
    exact bad (by rw [hvs]; rfl) _ hk
  | true =>
  repeat (any_goals (first
  | (with_reducible first|refine pureM_in ?_|((refine idGd ?_); refine zC ?_))
  | ((with_reducible refine idO ?_); (with_reducible refine oM_gen fun Kv hK=>?_); simp [go_sem, hk.cells]; refine hK _ _ ?_; clear hK; clear Kv)))
  refine exponent_ok s x (hs'.next hk.below) (fun w2 h2 => ?_)
  have hk := hk.next h2
  clear h2
  cases hex : exponentM s x with
  | false =>
    repeat (any_goals (first
    | (with_reducible first|((refine idGd ?_); first|refine zC ?_|refine zD ?_)|((refine idPick ?_); first|refine yB ?_|refine yC ?_)|((refine idCond ?_); refine yL ?_))
    | ((with_reducible refine idO ?_); (with_reducible refine oM_gen fun Kv hK=>?_); simp [go_sem, hk.cells]; refine hK _ _ ?_; clear hK; clear Kv)))
    exact bad (by rw [hex]; simp) _ hk
  | true =>
  repeat (any_goals (first
  | (with_reducible first|refine pureM_in ?_|((refine idGd ?_); refine zC ?_)|((refine idPick ?_); refine yC ?_))
  | ((with_reducible refine idO ?_); (with_reducible refine oM_gen fun Kv hK=>?_); simp [go_sem, hk.cells]; refine hK _ _ ?_; clear hK; clear Kv)))
  refine exponent_ok s kk (hs'.next hk.below) (fun w2 h2 => ?_)
  have hk := hk.next h2
  clear h2
  cases hek : exponentM s kk with
  | false =>
    repeat (any_goals (first
    | (with_reducible first|((refine idGd ?_); refine zC ?_)|((refine idPick ?_); refine yC ?_)|((refine idCond ?_); refine yL ?_))
    | ((with_reducible refine idO ?_); (with_reducible refine oM_gen fun Kv hK=>?_); simp [go_sem, hk.cells]; refine hK _ _ ?_; clear hK; clear Kv)))
    exact bad (by rw [hek]; simp) _ hk
  | true =>
  clear bad
  rw [hvs, hex, hek] at k
  simp only [Bool.and_self, if_true] at k
  iterate 6 (any_goals (first
  | (with_reducible first|((refine idGd ?_); refine zC ?_)|((refine idPick ?_); refine yC ?_)|((refine idCond ?_); refine yM ?_))
  | ((with_reducible refine idO ?_); (with_reducible refine oM_gen fun Kv hK=>?_); simp [go_sem, hk.cells]; refine hK _ _ ?_; clear hK; clear Kv)))
  refine local_grpM s.g hk (fun b4 W4 hk _ hb4 => ?_)
  have hk := hk.drew
  refine ⟨Nx { W4 with drawn := W4.drawn + 1 }, Below.refl _ _, rfl, ?_⟩
  generalize ({ W4 with drawn := W4.drawn + 1 } : World) = W at hk ⊢
  repeat (any_goals (first
  | (with_reducible refine pureH_in ?_)
  | ((with_reducible refine idOH ?_); (with_reducible refine oH_of ⟨_, rfl⟩ (fun W0 hW0 => by (refine oM_gen (fun Kv hK => ?_)); simp [go_sem, (hk.next hW0).cells]; (first | exact hK _ _ ⟨rfl, rfl⟩ | exact ⟨by omega, hK _ _ ⟨rfl, rfl⟩⟩)) ?_))))
  refine ⟨Nx, ?_⟩
  apply monoE
  · intro w1 h1
    exact Power_ok s.g _ _ (fun w2 h2 => ⟨h1.on h2, h2, rfl⟩)
  apply monoE
  · intro w1 h1
    exact Power_ok s.g _ _ (fun w2 h2 => ⟨h1.on h2, h2, rfl⟩)
  rintro w9 h9 _ rfl _ rfl
  have hk := hk.next h9
  refine challenge_ok s _ _ msg (hs'.next hk.below) (hl.below hk.below hl.size) (powerG_I64 _ _ _) (powerG_I64 _ _ _) hm (fun w5 h5 => ?_)
  have hk := hk.next h5
  generalize chalM s (powerG s.g s.g.G x) (powerG s.g s.g.G kk) msg = cc at *
  have hk := hk.drew
  refine ⟨Nx { w5 with drawn := w5.drawn + 1 }, Below.refl _ _, rfl, ?_⟩
  generalize ({ w5 with drawn := w5.drawn + 1 } : World) = W at hk ⊢
  repeat (any_goals (first
  | (with_reducible refine pureH_in ?_)
  | ((with_reducible refine idOH ?_); (with_reducible refine oH_of ⟨_, rfl⟩ (fun W0 hW0 => by (refine oM_gen (fun Kv hK => ?_)); simp [go_sem, (hk.next hW0).cells]; (first | exact hK _ _ ⟨rfl, rfl⟩ | exact ⟨by omega, hK _ _ ⟨rfl, rfl⟩⟩)) ?_))))
  refine ⟨Nx, ?_⟩
  apply monoE
  · intro w1 h1
    exact Mul_ok _ _ _ (fun w2 h2 => ⟨h1.on h2, h2, rfl⟩)
  apply monoE
  · rintro w1 h1 _ rfl
    exact Add_ok _ _ _ ⟨h1, Below.refl _ _, rfl⟩
  rintro w10 h10 _ rfl _ rfl
  have hk := hk.next h10
  rw [build_sig2]
  exact store_mine sz_sig rfl rfl (sig_one _ _) hk (fun W3 hk hc => ⟨_, by simp [go_sem, hc], k _ hk.below⟩)
theorem Signed_ok (s : Stp) (pub : Int) (msg : Bytes) (c z : Int) {v : Value} (hs : SetR w s v) (hl : Cd.Laid w) (hp : I64 pub) (hm : msg.length ≤ 1000)
    (k : ∀ w', Below w.heap.size w w' → K (.bool (PrSpec.signedM s pub msg c z)) w') :
    callM Tryz.prog 47 #[stpV s v, .int .i64 pub, .string ⟨msg.toArray⟩, sigV c z] K w := by
  apply sh_47_ok
  unfold sh_47
  have hs' := hs
  obtain ⟨ad, ca, rfl⟩ := hs.ints.isSlice
  refine box_kn (cs := stpC s (.slice ad s.bases.length ca)) rfl (.start w) fun b1 W hk hb1 hbb => ?_
  refine box_kn (cs := sigC c z) rfl hk fun b2 W2 hk hb2 hbb2 => ?_
  clear hb1 hb2 hbb2 hbb
  iterate 2 (any_goals ((with_reducible refine idO ?_); (with_reducible refine oM_gen fun Kv hK=>?_); simp [go_sem, hk.cells]; refine hK _ _ ?_; clear hK; clear Kv))
  refine local_grp s.g hk (fun b4 W4 hk _ hb4 => ?_)
  repeat (any_goals ((with_reducible refine idO ?_); (with_reducible refine oM_gen fun Kv hK=>?_); simp [go_sem, hk.cells]; refine hK _ _ ?_; clear hK; clear Kv))
  refine ValidSetup_ok s (hs'.next hk.below) (fun w2 h2 => ?_)
  have hk := hk.next h2
  clear h2
  unfold PrSpec.signedM at k
  cases hvs : validS s with
  | false =>
    rw [hvs] at k
    simp only [Bool.false_and] at k
    repeat (any_goals (first
    | (with_reducible first|((refine idGd ?_); refine zD ?_)|((refine idPick ?_); refine yB ?_)|((refine idCond ?_); refine yL ?_))
    | ((with_reducible refine idO ?_); (with_reducible refine oM_gen fun Kv hK=>?_); simp [go_sem, hk.cells]; refine hK _ _ ?_; clear hK; clear Kv)))
    exact k _ hk.below
  | true =>
  rw [hvs, Bool.true_and] at k
  repeat (any_goals (first
  | (with_reducible first|refine pureM_in ?_|((refine idGd ?_); refine zC ?_))
  | ((with_reducible refine idO ?_); (with_reducible refine oM_gen fun Kv hK=>?_); simp [go_sem, hk.cells]; refine hK _ _ ?_; clear hK; clear Kv)))
  refine Element_ok s.g pub hs'.grp (hs'.db.next hk.below) (fun w2 h2 => ?_)
  have hk := hk.next h2
  clear h2
  cases hex : elemG s.g pub with
  | false =>
    rw [hex] at k
    simp only [Bool.false_and] at k
    repeat (any_goals (first
    | (with_reducible first|((refine idGd ?_); first|refine zC ?_|refine zD ?_)|((refine idPick ?_); first|refine yB ?_|refine yC ?_)|((refine idCond ?_); refine yL ?_))
    | ((with_reducible refine idO ?_); (with_reducible refine oM_gen fun Kv hK=>?_); simp [go_sem, hk.cells]; refine hK _ _ ?_; clear hK; clear Kv)))
    exact k _ hk.below
  | true =>
  rw [hex, Bool.true_and] at k
  repeat (any_goals (first
  | (with_reducible first|((refine idGd ?_); refine zC ?_)|((refine idPick ?_); refine yC ?_))
  | ((with_reducible refine idO ?_); (with_reducible refine oM_gen fun Kv hK=>?_); simp [go_sem, hk.cells]; refine hK _ _ ?_; clear hK; clear Kv)))
  refine exponent_ok s c (hs'.next hk.below) (fun w2 h2 => ?_)
  have hk := hk.next h2
  clear h2
  cases hek : exponentM s c with
  | false =>
    rw [hek] at k
    simp only [Bool.false_and] at k
    repeat (any_goals (first
    | (with_reducible first|((refine idGd ?_); first|refine zC ?_|refine zD ?_)|((refine idPick ?_); first|refine yB ?_|refine yC ?_)|((refine idCond ?_); refine yL ?_))
    | ((with_reducible refine idO ?_); (with_reducible refine oM_gen fun Kv hK=>?_); simp [go_sem, hk.cells]; refine hK _ _ ?_; clear hK; clear Kv)))
    exact k _ hk.below
  | true =>
  rw [hek, Bool.true_and] at k
  repeat (any_goals (first
  | (with_reducible first|((refine idGd ?_); refine zC ?_)|((refine idPick ?_); refine yC ?_))
  | ((with_reducible refine idO ?_); (with_reducible refine oM_gen fun Kv hK=>?_); simp [go_sem, hk.cells]; refine hK _ _ ?_; clear hK; clear Kv)))
  refine exponent_ok s z (hs'.next hk.below) (fun w2 h2 => ?_)
  have hk := hk.next h2
  clear h2
  cases hez : exponentM s z with
  | false =>
    rw [hez] at k
    simp only [Bool.false_and] at k
    repeat (any_goals (first
    | (with_reducible first|((refine idGd ?_); refine zC ?_)|((refine idPick ?_); refine yC ?_)|((refine idCond ?_); refine yL ?_))
    | ((with_reducible refine idO ?_); (with_reducible refine oM_gen fun Kv hK=>?_); simp [go_sem, hk.cells]; refine hK _ _ ?_; clear hK; clear Kv)))
    exact k _ hk.below
  | true =>
  rw [hez, Bool.true_and] at k
  repeat (any_goals (first
  | (with_reducible first|((refine idGd ?_); refine zC ?_)|((refine idPick ?_); refine yC ?_)|((refine idCond ?_); refine yM ?_))
  | ((with_reducible refine idO ?_); (with_reducible refine oM_gen fun Kv hK=>?_); simp [go_sem, hk.cells]; refine hK _ _ ?_; clear hK; clear Kv)))
  have hk := hk.drew
  refine ⟨Nx { w2 with drawn := w2.drawn + 1 }, Below.refl _ _, rfl, ?_⟩
  generalize ({ w2 with drawn := w2.drawn + 1 } : World) = W at hk ⊢
  repeat (any_goals (first
  | (with_reducible refine pureH_in ?_)
  | ((with_reducible refine idOH ?_); (with_reducible refine oH_of ⟨_, rfl⟩ (fun W0 hW0 => by (refine oM_gen (fun Kv hK => ?_)); simp [go_sem, (hk.next hW0).cells]; (first | exact hK _ _ ⟨rfl, rfl⟩ | exact ⟨by omega, hK _ _ ⟨rfl, rfl⟩⟩)) ?_))))
  refine ⟨Nx, ?_⟩
  apply monoE
  · intro w1 h1
    exact Power_ok s.g _ _ (fun w2 h2 => ⟨h1.on h2, h2, rfl⟩)
  apply monoE
  · intro w1 h1
    exact Power_ok s.g _ _ (fun w2 h2 => ⟨h1.on h2, h2, rfl⟩)
  rintro w9 h9 _ rfl _ rfl
  have hk := hk.next h9
  refine Over_ok s.g _ _ (fun w5 h5 => ?_)
  have hk := hk.next h5
  have hI := overG_I64 s.g (powerG s.g s.g.G z) (powerG s.g pub c)
  generalize overG s.g (powerG s.g s.g.G z) (powerG s.g pub c) = a at *
  have hk := hk.drew
  refine ⟨Nx { w5 with drawn := w5.drawn + 1 }, Below.refl _ _, rfl, ?_⟩
  generalize ({ w5 with drawn := w5.drawn + 1 } : World) = W at hk ⊢
  repeat (any_goals (first
  | (with_reducible refine pureH_in ?_)
  | ((with_reducible refine idOH ?_); (with_reducible refine oH_of ⟨_, rfl⟩ (fun W0 hW0 => by (refine oM_gen (fun Kv hK => ?_)); simp [go_sem, (hk.next hW0).cells]; (first | exact hK _ _ ⟨rfl, rfl⟩ | exact ⟨by omega, hK _ _ ⟨rfl, rfl⟩⟩)) ?_))))
  refine ⟨Nx, ?_⟩
  apply monoE
  · intro w1 h1
    exact challenge_ok s _ _ msg (hs'.next (hk.next h1).below) (hl.below (hk.next h1).below hl.size) hp hI hm (fun w2 h2 => ⟨h1.on h2, h2, rfl⟩)
  rintro w10 h10 _ rfl
  have hk := hk.next h10
  repeat (any_goals ((with_reducible refine idO ?_); (with_reducible refine oM_gen fun Kv hK=>?_); simp [go_sem]; refine hK _ _ ?_; clear hK; clear Kv))
  exact k _ hk.below
end
end Go.Proofs
