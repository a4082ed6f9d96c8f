/- CK2: a part of the proof of the seat's statements: lemmas about the given translation and plain laws. No condition of its own. -/
import Derived.Test.YtefjibjojkjiiaaDoorCK
set_option linter.all false
namespace Go.Proofs
open Go Go.Sh Go.RowKit Go.Lib CodeSpec Go.ChangeShapes Go.WideShapes Go.ChangeAt
set_option linter.unusedSimpArgs false
set_option maxRecDepth 100000
theorem ba_len (s : ByteArray) : s.data.toList.length = s.size := by simp
theorem own : ownKnob Tryd.prog.godebug = none := by kernel_rfl
theorem laidOut : laidOutB Tryd.prog = true := by kernel_rfl
theorem door_met (os : Os) (args : Array Value) : laidMetH Tryd.prog laidList ((World.doorLaid Tryd.prog 400 os).forCall (fun _ _ => 0) ⟨#[], args, []⟩).memory :=
  laidMetH_of_parts3 (fuel := 8) (laidMet_of_run' 8 (by kernel_rfl) (by kernel_rfl)) (by kernel_rfl) (by kernel_rfl)
theorem intR {n : Int} (h : (Lit.int .i64 n).wf = true) : InR n := by
  simp only [Lit.wf, Bool.and_eq_true, decide_eq_true_eq] at h
  exact h
theorem heap6 {W : World} (h : laidMetH Tryd.prog laidList W) : 6 ≤ W.heap.size := by
  obtain ⟨ps, ⟨g0, t0, cs0, f0, p0, q0, hg0, ht0, hv0, hd0, _, _⟩, _, _⟩ := var_of_laid (nm := lname 1) (d := YtefjibjojkjiiaaDoor.Rows.laid_math_bits_deBruijn64tab) (by kernel_rfl) h
  have hg : Tryd.prog.globalNamed (lname 1) = some 5 := by kernel_rfl
  unfold World.var? at hv0
  rw [hg] at hv0
  simp only [Option.bind_some] at hv0
  split at hv0
  · rename_i cs t f hh
    have := (Array.getElem?_eq_some_iff.1 hh).1
    omega
  · cases hv0
section
variable {H : Type} {enc : TypeId × Value → H} {w : World} {sp : Nat → Bool} {hd : Bool}
theorem open_nums {v : Value} {n : Nat} {D : DataW H × List MemPlace} (h : DataW.trod enc Tryd.prog w 0 sp hd n 22 [v] = some D) : ∃ l : List Int, RowOf intV w v l ∧ l.length ≤ 9223372036854775807 ∧ ∀ x ∈ l, InR x := by
  obtain ⟨l, h1, h2, h3⟩ := rowOpen intV InR Tryd.underlying22 (by kernel_rfl) (fun V n D h => by
    obtain ⟨k, e, _, hw⟩ := DataW.trod_int Tryd.underlying3 h
    simp only [List.cons.injEq, and_true] at e
    exact ⟨k, e, intR hw⟩) h
  exact ⟨l, h1, h2, h3⟩
theorem open_texts {v : Value} {n : Nat} {D : DataW H × List MemPlace} (h : DataW.trod enc Tryd.prog w 0 sp hd n 23 [v] = some D) : ∃ l : List (List UInt8), RowOf strV w v l ∧ l.length ≤ 9223372036854775807 ∧ ∀ x ∈ l, x.length ≤ 9223372036854775807 := by
  obtain ⟨l, h1, h2, h3⟩ := rowOpen strV (fun x => x.length ≤ 9223372036854775807) Tryd.underlying23 (by kernel_rfl) (fun V n D h => by
    obtain ⟨s, e, _, hs⟩ := DataW.trod_string Tryd.underlying9 h
    simp only [List.cons.injEq, and_true] at e
    exact ⟨s.data.toList, by rw [e, strV, ← ba_of], by rw [ba_len]; exact hs⟩) h
  exact ⟨l, h1, h2, h3⟩
theorem val_of_trod {cs : List Value} {n : Nat} {D : DataW H × List MemPlace} (h : DataW.trod enc Tryd.prog w 0 sp hd n 25 cs = some D) : ∃ x, ValCells w cs x ∧ cs.length = 5 := by
  obtain ⟨hcl, hf⟩ := open_fields Tryd.underlying25 (by kernel_rfl) (by kernel_rfl) h
  obtain ⟨v0, y0, m0, c0, f0⟩ := hf 0 _ rfl
  obtain ⟨v1, y1, m1, c1, f1⟩ := hf 1 _ rfl
  obtain ⟨v2, y2, m2, c2, f2⟩ := hf 2 _ rfl
  obtain ⟨v3, y3, m3, c3, f3⟩ := hf 3 _ rfl
  obtain ⟨v4, y4, m4, c4, f4⟩ := hf 4 _ rfl
  obtain ⟨k0, e0, _, w0⟩ := DataW.trod_int Tryd.underlying3 f0
  obtain ⟨k1, e1, _, w1⟩ := DataW.trod_int Tryd.underlying3 f1
  obtain ⟨s2, e2, _, w2⟩ := DataW.trod_string Tryd.underlying9 f2
  obtain ⟨l3, r3, n3, q3⟩ := open_nums f3
  obtain ⟨l4, r4, n4, q4⟩ := open_texts f4
  simp only [List.cons.injEq, and_true] at e0 e1 e2
  have h5 : cs.length = 5 := hcl
  refine ⟨⟨k0, k1, s2.data.toList, l3, l4⟩, ⟨⟨v3, v4, ?_, r3, r4⟩, intR w0, intR w1, q3, by rw [ba_len]; exact w2, n3, n4, q4⟩, h5⟩
  match cs, h5 with
  | [x0, x1, x2, x3, x4], _ =>
    simp only [List.getElem?_cons_zero, List.getElem?_cons_succ, Option.some.injEq] at c0 c1 c2 c3 c4
    rw [c0, c1, c2, c3, c4, e0, e1, e2, ← ba_of]
theorem cells25 : Tryd.prog.cellsOf 25 = 5 := by kernel_rfl
theorem open_vals {b0 : Nat} {v : Value} {d : DataW H} {ps : List MemPlace} (hval : Value.okWide Tryd.prog w .any b0 28 v) (h : DataW.Trod enc Tryd.prog w 0 sp hd 28 v d ps) : ∃ l, ValRow w v l := by
  obtain ⟨a, len, cap, rfl, hl, hm, hel⟩ := open_elems Tryd.underlying28 (by rw [cells25]; decide) hval h
  have key : ∀ i : Fin len, ∃ x : Val, ∀ b o, a = some ⟨b, o, none⟩ → ∃ cs, ValCells w cs x ∧ cs.length = 5 ∧ ∀ j, j < 5 → w.cell? ⟨b, o + 5 * i + j, none⟩ = cs[j]? := by
    intro i
    obtain ⟨b, o, rfl, hb, hes⟩ := hel (by have := i.2; omega)
    obtain ⟨cs, D, n, hcl, hcells, ht⟩ := hes i i.2
    obtain ⟨x, hx, h5⟩ := val_of_trod ht
    refine ⟨x, fun b' o' hbo => ?_⟩
    simp only [Option.some.injEq, Addr.mk.injEq, and_true] at hbo
    obtain ⟨rfl, rfl⟩ := hbo
    rw [cells25] at hcells
    exact ⟨cs, hx, h5, fun j hj => by rw [Nat.mul_comm 5]; exact hcells j hj⟩
  refine ⟨List.ofFn (fun i => (key i).choose), a, cap, by rw [List.length_ofFn], ?_⟩
  by_cases h0 : len = 0
  · left; subst h0; rfl
  · right
    obtain ⟨b, o, rfl, hb, _⟩ := hel (by omega)
    refine ⟨b, o, rfl, hb, fun i hil => ?_⟩
    rw [List.length_ofFn] at hil
    rw [List.getElem_ofFn]
    exact (key ⟨i, hil⟩).choose_spec b o rfl
theorem open_val {b0 : Nat} {v : Value} {d : DataW H} {ps : List MemPlace} (hval : Value.okWide Tryd.prog w .any b0 25 v) (h : DataW.Trod enc Tryd.prog w 0 sp hd 25 v d ps) : ∃ cs x, v = .agg (List.toArray cs) ∧ ValCells w cs x := by
  obtain ⟨cs, rfl, hs⟩ := okWide_struct Tryd.underlying25 hval
  obtain ⟨fuel, hf⟩ := h
  obtain ⟨x, hx, _⟩ := val_of_trod hf
  exact ⟨cs.toList, x, rfl, hx⟩
end
end Go.Proofs
