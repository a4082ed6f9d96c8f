/- OpenKit: a part of the proof of the seat's statements: lemmas about the given translation and plain laws. No condition of its own. -/
import Derived.Test.YtefjibjojkjiiaaLawKit
import Derived.Deep.Slices
import Derived.Deep.Fields
set_option linter.all false
/- Arguments that are slices, opened to their cells. -/
namespace Go.Sh
open Go Go.ChangeShapes Go.WideShapes Go.ChangeAt Go.RowKit Go.Deep
section
variable {H : Type} {enc : TypeId × Value → H} {P : Program} {w : World} {sp : Nat → Bool} {hd : Bool}
theorem addr_add' (b o k : Nat) : (⟨b, o, none⟩ : Addr).add k = ⟨b, o + k, none⟩ := by
  unfold Addr.add
  split
  · rename_i h; rw [h]; rfl
  · rfl
theorem cell_lt {a : Addr} {v : Value} (h : w.cell? a = some v) : a.block < w.heap.size ∧ a.spot = none := by
  unfold World.cell? at h
  split at h
  · rename_i c t f hh
    refine ⟨(Array.getElem?_eq_some_iff.1 hh).1, ?_⟩
    split at h
    · cases h
    · rename_i hs
      cases hsp : a.spot with
      | none => rfl
      | some x => rw [hsp] at hs; exact absurd rfl hs
  · cases h
/-- a slice's elements, cell by cell -/
theorem open_elems {b0 : Nat} {t e : TypeId} {v : Value} {d : DataW H} {ps : List MemPlace} (ht : P.underlying t = some (.slice e)) (hC : 0 < P.cellsOf e) (hval : Value.okWide P w .any b0 t v) (h : DataW.Trod enc P w 0 sp hd t v d ps) :
    ∃ a len cap, v = .slice a len cap ∧ len ≤ cap ∧ cap ≤ maxLen ∧ (0 < len → ∃ b o, a = some ⟨b, o, none⟩ ∧ b < w.heap.size ∧
      ∀ i, i < len → ∃ (cs : List Value) (D : DataW H × List MemPlace) (n : Nat), cs.length = P.cellsOf e ∧ (∀ j, j < P.cellsOf e → w.cell? ⟨b, o + i * P.cellsOf e + j, none⟩ = cs[j]?) ∧ DataW.trod enc P w 0 sp hd n e cs = some D) := by
  obtain ⟨a, len, cap, rfl⟩ := okWide_slice ht hval
  obtain ⟨fuel, hf⟩ := h
  rcases open_slice ht hf with ⟨hcs, _⟩ | ⟨a', len', cap', m, n, D, Pl, hcs, _, hl, hm, hmm, _, hi⟩
  · simp only [Value.cells, List.cons.injEq, Value.slice.injEq, and_true] at hcs
    obtain ⟨rfl, rfl, rfl⟩ := hcs
    exact ⟨none, 0, 0, rfl, Nat.le_refl _, Nat.zero_le _, fun h => absurd h (by omega)⟩
  · simp only [Value.cells, List.cons.injEq, Value.slice.injEq, and_true] at hcs
    obtain ⟨rfl, rfl, rfl⟩ := hcs
    refine ⟨_, _, _, rfl, hl, hm, fun hpos => ?_⟩
    have hml : len ≤ m := by rw [hmm]; split <;> omega
    obtain ⟨cs0, hc0, _⟩ := hi 0 (by omega)
    obtain ⟨_, hl0, h0⟩ := World.cells?_some hc0
    have h00 := h0 0 hC
    rw [Nat.zero_mul] at h00
    have e0 : (a'.add 0).add 0 = a' := by simp [Addr.add]
    rw [e0, List.getElem?_eq_getElem (by omega)] at h00
    obtain ⟨hb, hs⟩ := cell_lt h00
    obtain ⟨b, o, s⟩ := a'
    simp only at hs hb
    subst hs
    refine ⟨b, o, rfl, hb, fun i hil => ?_⟩
    obtain ⟨cs, hc, ht2⟩ := hi i (by omega)
    obtain ⟨_, hcl, hat⟩ := World.cells?_some hc
    refine ⟨cs, _, n, hcl, fun j hj => ?_, ht2⟩
    have := hat j hj
    rw [addr_add', addr_add'] at this
    exact this
/-- a struct whose fields are one cell each: the fields' own readings -/
theorem open_fields {e : TypeId} {fs : Array Field} {n : Nat} {cs : List Value} {D : DataW H × List MemPlace} (he : P.underlying e = some (.struct fs)) (hone : oneCellFields P fs = true) (hC : P.cellsOf e = fs.size)
    (h : DataW.trod enc P w 0 sp hd n e cs = some D) :
    cs.length = fs.size ∧ ∀ (j : Nat) (f : Field), fs[j]? = some f → ∃ (v : Value) (y : DataW H × List MemPlace) (m : Nat), cs[j]? = some v ∧ DataW.trod enc P w 0 sp hd m f.type [v] = some y := by
  obtain ⟨xs, m, _, _, hcl, hxl, hf⟩ := DataW.trod_struct he h
  rw [hC] at hcl
  refine ⟨hcl, fun j f hj => ?_⟩
  obtain ⟨ho, hk⟩ := hone_of hone j f hj
  have hjl : j < fs.size := (Array.getElem?_eq_some_iff.1 hj).1
  have h1 := hf j f hj
  rw [ho, hk, List.drop_eq_getElem_cons (by omega), List.getElem?_eq_getElem (by omega : j < xs.length)] at h1
  exact ⟨_, _, m, List.getElem?_eq_getElem (by omega), h1⟩
end
end Go.Sh
