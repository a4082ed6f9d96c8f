/- OpenKit2: a part of the proof of the seat's statements: lemmas about the given translation and plain laws. No condition of its own. -/
import Derived.Test.YtefjibjojkjiiaaOpenKit
set_option linter.all false
/- More openings: slices of one-cell elements as lists; the type of an interface value. -/
namespace Go.Sh
open Go Go.ChangeShapes Go.WideShapes Go.ChangeAt Go.RowKit Go.Deep
section
variable {H : Type} {enc : TypeId × Value → H} {P : Program} {w : World} {sp : Nat → Bool} {hd : Bool}
/-- the elements of a slice with one cell each, each read by 'rd' -/
theorem rowOpen {α : Type} (mk : α → Value) (Q : α → Prop) {t e : TypeId} {v : Value} {n : Nat} {D : DataW H × List MemPlace} (ht : P.underlying t = some (.slice e)) (hC : P.cellsOf e = 1)
    (hrd : ∀ (V : Value) (n : Nat) (D : DataW H × List MemPlace), DataW.trod enc P w 0 sp hd n e [V] = some D → ∃ x, V = mk x ∧ Q x) (h : DataW.trod enc P w 0 sp hd n t [v] = some D) :
    ∃ l : List α, (∃ ad c, v = .slice ad l.length c ∧ (l = [] ∨ ∃ b o, ad = some ⟨b, o, none⟩ ∧ b < w.heap.size ∧ ∀ (i : Nat) (h : i < l.length), w.cell? ⟨b, o + i, none⟩ = some (mk l[i]))) ∧ l.length ≤ maxLen ∧ ∀ x ∈ l, Q x := by
  rcases open_slice1 ht hC h with ⟨hcs, _⟩ | ⟨a', len, cap, m, n', V, D', Pl, hcs, _, hl, hm, hmm, _, hi⟩
  · simp only [List.cons.injEq, and_true] at hcs
    subst hcs
    exact ⟨[], ⟨none, 0, rfl, .inl rfl⟩, by simp, by simp⟩
  · simp only [List.cons.injEq, and_true] at hcs
    subst hcs
    have hml : len ≤ m := by rw [hmm]; split <;> omega
    have key : ∀ i : Fin len, ∃ x, V i = mk x ∧ Q x := fun i => hrd _ _ _ (hi i (by have := i.2; omega)).2
    refine ⟨List.ofFn (fun i => (key i).choose), ⟨some a', cap, by rw [List.length_ofFn], ?_⟩, by rw [List.length_ofFn]; omega, ?_⟩
    · by_cases h0 : len = 0
      · left; subst h0; rfl
      · right
        have h00 := (hi 0 (by omega)).1
        have e0 : a'.add 0 = a' := by simp [Addr.add]
        rw [e0] at h00
        obtain ⟨hb, hs⟩ := cell_lt h00
        obtain ⟨b, o, s⟩ := a'
        simp only at hs hb
        subst hs
        refine ⟨b, o, rfl, hb, fun i hil => ?_⟩
        rw [List.length_ofFn] at hil
        have h1 := (hi i (by omega)).1
        rw [addr_add'] at h1
        rw [h1, List.getElem_ofFn]
        have := (key ⟨i, hil⟩).choose_spec.1
        exact congrArg some this
    · intro x hx
      rw [List.mem_ofFn] at hx
      obtain ⟨i, rfl⟩ := hx
      exact (key i).choose_spec.2
theorem trodIface {t : TypeId} {ms : Array (String × TypeId)} {cs : List Value} {n : Nat} {nm : String} {d : DataW H} {ps : List MemPlace} (ht : P.underlying t = some (.interface ms)) (h : DataW.trod enc P w 0 sp false n t cs = some (.iface nm d, ps)) : ∃ u v, cs = [.iface u v] := by
  cases n with
  | zero => simp [DataW.trod] at h
  | succ n =>
    unfold DataW.trod at h
    rw [ht] at h
    match cs, h with
    | [.iface u v], _ => exact ⟨u, v, rfl⟩
    | [.nilIface], h => simp at h
    | [], h => simp at h
    | [.int _ _], h => simp at h
    | [.bool _], h => simp at h
    | [.string _], h => simp at h
    | [.pointer _], h => simp at h
    | [.slice _ _ _], h => simp at h
    | [.map _], h => simp at h
    | [.float _ _], h => simp at h
    | [.complex _ _ _], h => simp at h
    | [.agg _], h => simp at h
    | [.tuple _], h => simp at h
    | [.func _ _ _], h => simp at h
    | [.nilFunc], h => simp at h
    | [.chan _], h => simp at h
    | _ :: _ :: _, h => simp at h
end
end Go.Sh
