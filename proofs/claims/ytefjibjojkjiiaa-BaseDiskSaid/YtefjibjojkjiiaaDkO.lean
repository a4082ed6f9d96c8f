/- DkO: a part of the proof of the seat's statements: lemmas about the given translation and plain laws. No condition of its own. -/
import Derived.Test.YtefjibjojkjiiaaDkM
import Derived.Test.YtefjibjojkjiiaaLawKit
import Derived.Test.YtefjibjojkjiiaaOpenKit
import Derived.Test.YtefjibjojkjiiaaOpenKit2
import Derived.Test.YtefjibjojkjiiaaRows
set_option linter.all false
namespace Go.Proofs
open Go Go.Sh Go.RowKit DkSpec Go.ChangeShapes Go.WideShapes Go.ChangeAt Go.Deep
set_option linter.unusedSimpArgs false
set_option maxRecDepth 100000
theorem own : ownKnob Try.prog.godebug = none := by kernel_rfl
theorem laidOut : laidOutB Try.prog = true := by kernel_rfl
theorem intR {n : Int} (h : (Lit.int .i64 n).wf = true) : InR n := by
  simp only [Lit.wf, Bool.and_eq_true, decide_eq_true_eq] at h
  have h1 : IntKind.i64.min = -2 ^ 63 := by decide
  have h2 : IntKind.i64.max = 2 ^ 63 - 1 := by decide
  rw [h1, h2] at h
  exact ⟨h.1, by have := h.2; omega⟩
section
variable {H : Type} {enc : TypeId × Value → H} {w : World} {sp : Nat → Bool} {hd : Bool}
theorem rowOpen2 {P : Program} {α : Type} (mk : α → Value) (Q : α → Prop) {t e : TypeId} {v : Value} {n : Nat} {D : DataW H × List MemPlace} (ht : P.underlying t = some (.slice e)) (hC : P.cellsOf e = 1)
    (hrd : ∀ (V : Value) (n : Nat) (D : DataW H × List MemPlace), DataW.trod enc P w 0 sp hd n e [V] = some D → ∃ x, V = mk x ∧ Q x) (h : DataW.trod enc P w 0 sp hd n t [v] = some D) :
    ∃ l : List α, RowN (fun x => [mk x]) w.heap.size w v l ∧ l.length ≤ maxLen ∧ ∀ x ∈ l, Q x := by
  have h' := h
  obtain ⟨l, ⟨ad, c, rfl, h1⟩, h2, h3⟩ := rowOpen mk Q ht hC hrd h
  refine ⟨l, ⟨ad, c, rfl, ?_, h1.imp id ?_⟩, h2, h3⟩
  · intro hn
    subst hn
    rcases open_slice1 ht hC h' with ⟨hcs, _⟩ | ⟨a', len, cap, m, n', V, D', Pl, hcs, _⟩
    · simp only [List.cons.injEq, and_true, Value.slice.injEq] at hcs
      exact ⟨hcs.2.1, hcs.2.2⟩
    · simp only [List.cons.injEq, and_true, Value.slice.injEq] at hcs
      cases hcs.1
  · rintro ⟨b, o, rfl, hb, hc⟩
    refine ⟨b, o, rfl, hb, fun k x hk => ?_⟩
    rw [show flat (fun x => [mk x]) l = l.map mk from flat_one mk l] at hk
    obtain ⟨hlt, hx⟩ := List.getElem?_eq_some_iff.1 hk
    rw [List.length_map] at hlt
    rw [hc k hlt, ← hx, List.getElem_map]
theorem open_ints {v : Value} {n : Nat} {D : DataW H × List MemPlace} (h : DataW.trod enc Try.prog w 0 sp hd n 31 [v] = some D) : ∃ l : List Int, RowN intC w.heap.size w v l ∧ ∀ x ∈ l, InR x := by
  obtain ⟨l, h1, h2, h3⟩ := rowOpen2 i64V InR Try.underlying31 (by kernel_rfl) (fun V n D h => by
    obtain ⟨k, e, _, hw⟩ := DataW.trod_int Try.underlying3 h
    simp only [List.cons.injEq, and_true] at e
    exact ⟨k, e, intR hw⟩) h
  exact ⟨l, h1, h3⟩
theorem ba_of (s : ByteArray) : s = ⟨s.data.toList.toArray⟩ := by simp
theorem act_of_trod {cs : List Value} {n : Nat} {D : DataW H × List MemPlace} (h : DataW.trod enc Try.prog w 0 sp hd n 33 cs = some D) : ∃ x, ActCells w.heap.size w cs x ∧ cs.length = 5 := by
  obtain ⟨hcl, hf⟩ := open_fields Try.underlying33 (by kernel_rfl) (by kernel_rfl) h
  obtain ⟨v0, y0, m0, c0, f0⟩ := hf 0 _ rfl
  obtain ⟨v1, y1, m1, c1, f1⟩ := hf 1 _ rfl
  obtain ⟨v2, y2, m2, c2, f2⟩ := hf 2 _ rfl
  obtain ⟨v3, y3, m3, c3, f3⟩ := hf 3 _ rfl
  obtain ⟨v4, y4, m4, c4, f4⟩ := hf 4 _ rfl
  obtain ⟨k0, e0, _, w0⟩ := DataW.trod_int Try.underlying3 f0
  obtain ⟨k1, e1, _, w1⟩ := DataW.trod_int Try.underlying3 f1
  obtain ⟨k2, e2, _, w2⟩ := DataW.trod_int Try.underlying3 f2
  obtain ⟨s3, e3, _, w3⟩ := DataW.trod_string Try.underlying9 f3
  obtain ⟨l4, r4, q4⟩ := open_ints f4
  simp only [List.cons.injEq, and_true] at e0 e1 e2 e3
  have h5 : cs.length = 5 := hcl
  refine ⟨⟨k0, k1, k2, s3.data.toList, l4⟩, ⟨⟨v4, ?_, r4⟩, intR w0, intR w1, intR w2, q4⟩, h5⟩
  match cs, h5 with
  | [x0, x1, x2, x3, x4], _ =>
    simp only [List.getElem?_cons_zero, List.getElem?_cons_succ, Option.some.injEq] at c0 c1 c2 c3 c4
    rw [c0, c1, c2, c3, c4, e0, e1, e2, e3, bsV, ← ba_of]
theorem cellsAct : Try.prog.cellsOf 33 = 5 := by kernel_rfl
theorem open_acts {b0 : Nat} {v : Value} {d : DataW H} {ps : List MemPlace} (hval : Value.okWide Try.prog w .any b0 22 v) (h : DataW.Trod enc Try.prog w 0 sp hd 22 v d ps) : ∃ l, ActRow w.heap.size w v l := by
  obtain ⟨a, len, cap, rfl, hl, hm, hel⟩ := open_elems Try.underlying22 (by rw [cellsAct]; decide) hval h
  have key : ∀ i : Fin len, ∃ x : Act, ∀ b o, a = some ⟨b, o, none⟩ → ∃ cs, ActCells w.heap.size w cs x ∧ cs.length = 5 ∧ ∀ j, j < 5 → w.cell? ⟨b, o + i * 5 + j, none⟩ = cs[j]? := by
    intro i
    obtain ⟨b, o, rfl, hb, hes⟩ := hel (by have := i.2; omega)
    obtain ⟨cs, D, n, hcl, hcells, ht⟩ := hes i i.2
    obtain ⟨x, hx, h5⟩ := act_of_trod ht
    refine ⟨x, fun b' o' hbo => ?_⟩
    simp only [Option.some.injEq, Addr.mk.injEq, and_true] at hbo
    obtain ⟨rfl, rfl⟩ := hbo
    rw [cellsAct] at hcells
    exact ⟨cs, hx, h5, hcells⟩
  refine ⟨List.ofFn (fun i => (key i).choose), a, cap, by rw [List.length_ofFn], ?_⟩
  by_cases h0 : len = 0
  · left; subst h0; rfl
  · right
    obtain ⟨b, o, rfl, hb, _⟩ := hel (by omega)
    refine ⟨b, o, rfl, hb, fun i hil => ?_⟩
    rw [List.length_ofFn] at hil
    rw [List.getElem_ofFn]
    exact (key ⟨i, hil⟩).choose_spec b o rfl
theorem open_keep {b0 : Nat} {v : Value} {d : DataW H} {ps : List MemPlace} (hval : Value.okWide Try.prog w .any b0 31 v) (h : DataW.Trod enc Try.prog w 0 sp hd 31 v d ps) : ∃ l : List Int, RowN intC w.heap.size w v l ∧ ∀ x ∈ l, InR x := by
  obtain ⟨a, n, c, rfl⟩ := okWide_slice Try.underlying31 hval
  obtain ⟨fu, hf⟩ := h
  exact open_ints hf
end
end Go.Proofs
