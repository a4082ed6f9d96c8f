/- ShCom: a part of the proof of the seat's statements: lemmas about the given translation and plain laws. No condition of its own. -/
import Derived.WalkKit
import Derived.Still
set_option linter.all false
/- Regions that draw their order, with operations that write: if each operation yields one value whatever of the others has come up before it, the order makes no difference. The class of worlds tells which operations have come up. -/
namespace Go.Sh
open Go
/-- what has come up, and 'i' now too -/
def set1 (D : Nat → Bool) (i : Nat) : Nat → Bool := fun j => bif Nat.beq j i then true else D j
/-- the operation's end: the value, and a world of the class -/
def endsIn (P : Program) (C : World → Prop) (v : Value) : Result Next → Prop
  | .ok (.value u) w' => u = v ∧ C w'
  | .ok .skip w' => v = undef ∧ C w'
  | .ok (.enter f args) w' => Calls P f args w' (fun e w'' => e = .returned v ∧ C w'')
  | _ => False
/-- those numbers have come up -/
def upAll : List Nat → (Nat → Bool) → Prop
  | [], _ => True
  | j :: js, D => D j = true ∧ upAll js D
theorem upAll_of {D : Nat → Bool} : ∀ {l : List Nat}, (∀ j ∈ l, D j = true) → upAll l D
  | [], _ => trivial
  | j :: _, h => ⟨h j (by simp), upAll_of (fun k hk => h k (by simp [hk]))⟩
/-- what an operation waits for -/
def waits (o : Oper) : List Nat := (o.after.toList.filter (Region.binds .any)).map (·.on)
section
variable {P : Program} {ops : Array Oper} {C : (Nat → Bool) → World → Prop}
def gives (P : Program) (C : (Nat → Bool) → World → Prop) (i : Nat) (ds : List Nat) (s : Sem Next) (v : Value) : Prop := ∀ D w, D i = false → upAll ds D → C D w → endsIn P (C (set1 D i)) v (s.run P w)
def rests (C : (Nat → Bool) → World → Prop) (i : Nat) (ds : List Nat) : Prop := ∀ D w, D i = false → upAll ds D → C D w → C (set1 D i) w
/-- operation number i, in a frame, with its value -/
def Comes (P : Program) (ops : Array Oper) (C : (Nat → Bool) → World → Prop) (i : Nat) (o : Oper) (a : Act) (v : Value) : Prop :=
  bif Region.wanted o (yielded ops a.tmps) then gives P C i (waits o) (execOp a.eval o) v else v = undef ∧ rests C i (waits o)
def wpCom (P : Program) (ops : Array Oper) (C : (Nat → Bool) → World → Prop) (Q : Act → Prop) : Nat → List Oper → Act → Prop
  | _, [], a => Q a
  | k, o :: rest, a => ∃ v, Comes P ops C k o a v ∧ wpCom P ops C Q (k + 1) rest (a.put o.dst v)
/-- every order from here on -/
def anyCom (P : Program) (ops : Array Oper) (C : (Nat → Bool) → World → Prop) (Q : Array Bool → Act → Prop) : Nat → Array Bool → Act → Prop
  | 0, listed, a => Region.ready .any ops listed = [] ∧ Q listed a
  | n + 1, listed, a => (Region.ready .any ops listed = [] → Q listed a) ∧
    ∀ i ∈ Region.ready .any ops listed, ∀ o, ops[i]? = some o → ∃ v, Comes P ops C i o a v ∧ anyCom P ops C Q n (listed.setIfInBounds i true) (a.put o.dst v)
def upOf (listed : Array Bool) : Nat → Bool := fun j => listed.getD j true
theorem upOf_set (listed : Array Bool) (i : Nat) : upOf (listed.setIfInBounds i true) = set1 (upOf listed) i := by
  funext j
  unfold upOf set1
  by_cases h : j = i
  · subst h
    have hb : Nat.beq j j = true := by simp
    rw [hb]
    by_cases hlt : j < listed.size <;> simp [Array.getD_eq_getD_getElem?, Array.getElem?_setIfInBounds, hlt]
  · have hb : Nat.beq j i = false := by
      cases hx : Nat.beq j i with
      | false => rfl
      | true => exact absurd (Nat.eq_of_beq_eq_true hx) h
    rw [hb, getD_set_ne true (fun e => h e.symm)]
    rfl
theorem any_of_com {Q : Array Bool → Act → Prop} {Q' : Exit → Act → World → Prop} (hQ : ∀ l a w, C (upOf l) w → Q l a → Q' .normal a w) : ∀ (n : Nat) (listed : Array Bool) (a : Act) (w : World), C (upOf listed) w →
    anyCom P ops C Q n listed a → wpAny P .any ops Q' n listed a w
  | 0, _, _, _, hw, h => ⟨h.1, hQ _ _ _ hw h.2⟩
  | n + 1, listed, a, w, hw, h => by
    refine ⟨fun h0 => hQ _ _ _ hw (h.1 h0), fun i hi => ?_⟩
    obtain ⟨hun, o, ho, hdep⟩ := mem_ready.1 hi
    have hup : upAll (waits o) (upOf listed) := by
      refine upAll_of (fun j hj => ?_)
      simp only [waits, List.mem_map, List.mem_filter] at hj
      obtain ⟨e, ⟨he, hb⟩, rfl⟩ := hj
      have h1 := hdep e (by simpa using he) hb
      unfold upOf
      unfold Array.getD at h1 ⊢
      split at h1
      · rename_i hlt; rw [dif_pos hlt]; exact h1
      · cases h1
    obtain ⟨v, hc, hn⟩ := h.2 i hi o ho
    have next : ∀ w', C (set1 (upOf listed) i) w' → wpAny P .any ops Q' n (listed.setIfInBounds i true) (a.put o.dst v) w' := fun w' hw' =>
      any_of_com hQ n _ _ w' (by rw [upOf_set]; exact hw') hn
    unfold wpOp
    rw [ho]
    unfold Comes at hc
    show if Region.wanted o (yielded ops a.tmps) = true then _ else _
    cases hwant : Region.wanted o (yielded ops a.tmps) with
    | false =>
      rw [hwant] at hc
      obtain ⟨rfl, hr⟩ := hc
      rw [if_neg (by simp)]
      exact next w (hr _ _ hun hup hw)
    | true =>
      rw [hwant] at hc
      rw [if_pos rfl]
      left
      have hg := hc _ _ hun hup hw
      unfold Oper.wp
      revert hg
      generalize (execOp a.eval o).run P w = r
      intro hg
      cases r with
      | halt x w' => exact hg.elim
      | ok x w' =>
        cases x with
        | value u =>
          obtain ⟨rfl, hc'⟩ := hg
          exact next _ hc'
        | skip =>
          obtain ⟨rfl, hc'⟩ := hg
          exact next _ hc'
        | enter f args =>
          refine Calls.mono hg ?_
          rintro e w'' ⟨rfl, hc'⟩
          exact next _ hc'
        | _ => exact hg.elim
/-- what an operation gives is not moved by another's value -/
theorem Comes.put {i : Nat} {oi oj : Oper} {a : Act} {v u : Value} (hs : ∀ cs b, oi.op ≠ .select cs b) (h : ∀ d, oj.dst = some d → d ∉ oi.looksAt ops) : Comes P ops C i oi (a.put oj.dst u) v ↔ Comes P ops C i oi a v := by
  unfold Comes
  rw [wanted_put oi a oj.dst u h, execOp_put oi hs a oj.dst u h]
theorem com_first {Q : Array Bool → Act → Prop} {i : Nat} {oi : Oper} {v : Value} (hi : ops[i]? = some oi) (hsel : ∀ (j : Nat) (o : Oper) cs b, ops[j]? = some o → o.op ≠ .select cs b) :
    ∀ (n : Nat) (listed : Array Bool) (a : Act),
      (∀ j oj, ops[j]? = some oj → j ≠ i → listed.getD j true = false → (∀ e ∈ oj.after, Region.binds .any e = true → e.on ≠ i) → oi.apart ops oj = true) →
      i ∈ Region.ready .any ops listed → Comes P ops C i oi a v →
      anyCom P ops C Q n (listed.setIfInBounds i true) (a.put oi.dst v) → anyCom P ops C Q (n + 1) listed a := by
  intro n
  induction n with
  | zero =>
    intro listed a _ hr hy H
    refine ⟨fun h => absurd hr (by rw [h]; simp), fun j hj oj hoj => ?_⟩
    by_cases hji : j = i
    · subst hji
      obtain rfl : oi = oj := by rw [hi] at hoj; exact Option.some.inj hoj
      exact ⟨v, hy, H⟩
    · have h1 := ready_mono hj hji
      rw [H.1] at h1
      cases h1
  | succ n ih =>
    intro listed a hfree hr hy H
    refine ⟨fun h => absurd hr (by rw [h]; simp), fun j hj oj hoj => ?_⟩
    by_cases hji : j = i
    · subst hji
      obtain rfl : oi = oj := by rw [hi] at hoj; exact Option.some.inj hoj
      exact ⟨v, hy, H⟩
    · obtain ⟨hjun, oj', hoj', hall⟩ := mem_ready.1 hj
      obtain rfl : oj = oj' := by rw [hoj] at hoj'; exact Option.some.inj hoj'
      have hiun := (mem_ready.1 hr).1
      have hnot : ∀ e ∈ oj.after, Region.binds .any e = true → e.on ≠ i := by
        intro e he hb heq
        have h1 := hall e he hb
        rw [heq] at h1
        unfold Array.getD at h1 hiun
        split at h1
        · rename_i hlt
          rw [dif_pos hlt] at hiun
          rw [hiun] at h1
          cases h1
        · cases h1
      have hap := hfree j oj hoj hji hjun hnot
      obtain ⟨h1, h2, h3⟩ := Oper.apart_spec hap
      obtain ⟨u, hu, hn⟩ := H.2 j (ready_mono hj hji) oj hoj
      rw [Comes.put (fun cs b => hsel j oj cs b hoj) h1] at hu
      refine ⟨u, hu, ih _ _ ?_ (ready_mono hr (fun e => hji e.symm)) ((Comes.put (fun cs b => hsel i oi cs b hi) h3).2 hy) ?_⟩
      · intro k ok hk hki hun hno
        refine hfree k ok hk hki ?_ hno
        by_cases hjk : j = k
        · subst hjk; exact hjun
        · rw [getD_set_ne true hjk] at hun; exact hun
      · rw [Array.setIfInBounds_comm _ _ hji, ← Act.put_comm a v u h2]
        exact hn
theorem com_lex {Q : Array Bool → Act → Prop} (hs : Region.noSelect ops = true) : ∀ (l : List Oper) (k : Nat) (listed : Array Bool) (a : Act), (∀ j, l[j]? = ops[k + j]?) → k + l.length = ops.size → listed.size = ops.size → (∀ j, j < k → listed.getD j true = true) →
    Region.lexFrom .any ops l.length k listed = true → wpCom P ops C (fun a => ∀ l, upOf l = (fun _ => true) → Q l a) k l a → anyCom P ops C Q l.length listed a
  | [], k, listed, a, _, hk, hsz, hup, hB, h => by
    refine ⟨by simpa [Region.lexFrom] using hB, h listed ?_⟩
    funext j
    unfold upOf
    by_cases hj : j < k
    · exact hup j hj
    · have : listed.size ≤ j := by simp at hk; omega
      simp [Array.getD_eq_getD_getElem?, Array.getElem?_eq_none this]
  | o :: l, k, listed, a, hl, hk, hsz, hup, hB, h => by
    have h0 : ops[k]? = some o := by simpa using (hl 0).symm
    simp only [List.length_cons, Region.lexFrom, Bool.and_eq_true] at hB
    obtain ⟨⟨hr, hf⟩, hB'⟩ := hB
    obtain ⟨v, hy, hK⟩ := h
    refine com_first h0 (Region.noSelect_spec hs) l.length listed a (Region.free_spec h0 hf) (by simpa using hr) hy ?_
    refine com_lex hs l (k + 1) _ _ (fun j => by have := hl (j + 1); simpa [Nat.add_assoc, Nat.add_comm 1 j] using this) (by simp at hk; omega) (by simpa using hsz) ?_ hB' hK
    intro j hj
    by_cases hjk : j = k
    · subst hjk
      have : j < listed.size := by simp at hk; omega
      simp [Array.getD_eq_getD_getElem?, Array.getElem?_setIfInBounds, this]
    · rw [getD_set_ne true (fun e => hjk e.symm)]
      exact hup j (by omega)
theorem wpCom_mono {Q Q' : Act → Prop} : ∀ (l : List Oper) (k : Nat) (a : Act), wpCom P ops C Q k l a → (∀ a, Q a → Q' a) → wpCom P ops C Q' k l a
  | [], _, _, h, hq => hq _ h
  | _ :: rest, k, _, ⟨v, hc, h⟩, hq => ⟨v, hc, wpCom_mono rest (k + 1) _ h hq⟩
theorem wp_region_com {id : Nat} {Q : Exit → Act → World → Prop} {a : Act} {w : World} (hm : P.follows .mixedOrders = true) (hB : Region.lexB .any ops = true) (hC : C (fun j => Nat.ble ops.size j) { w with drawn := w.drawn + 1 })
    (h : wpCom P ops C (fun a' => ∀ w', C (fun _ => true) w' → Q .normal a' w') 0 ops.toList a) : (Code.region id ops true).wp P Q a w := by
  simp only [Region.lexB, Bool.and_eq_true] at hB
  have e0 : upOf (Array.replicate ops.size false) = (fun j => Nat.ble ops.size j) := by
    funext j
    unfold upOf
    by_cases hj : j < ops.size
    · have : Nat.ble ops.size j = false := by
        cases hx : Nat.ble ops.size j with
        | false => rfl
        | true => have := Nat.le_of_ble_eq_true hx; omega
      rw [this]
      simp [Array.getD_eq_getD_getElem?, Array.getElem?_replicate, hj]
    · have : Nat.ble ops.size j = true := Nat.ble_eq_true_of_le (by omega)
      rw [this]
      simp [Array.getD_eq_getD_getElem?, Array.getElem?_replicate, hj]
  refine wp_region_any hm (any_of_com (C := C) (Q := fun l a' => ∀ w', C (upOf l) w' → Q .normal a' w') (fun l a w hw h => h w hw) _ _ _ _ (by rw [e0]; exact hC) ?_)
  have h' : wpCom P ops C (fun a' => ∀ l, upOf l = (fun _ => true) → ∀ w', C (upOf l) w' → Q .normal a' w') 0 ops.toList a :=
    wpCom_mono ops.toList 0 a h (fun a ha l hl w' hw' => ha w' (by rw [hl] at hw'; exact hw'))
  have := com_lex (Q := fun l a' => ∀ w', C (upOf l) w' → Q .normal a' w') hB.1 ops.toList 0 (Array.replicate ops.size false) a (by simp) (by simp) (by simp) (fun j hj => absurd hj (by omega)) (by simpa using hB.2) h'
  simpa using this
end
end Go.Sh
