/- DkK: a part of the proof of the seat's statements: lemmas about the given translation and plain laws. No condition of its own. -/
--Q
import Derived.Test.YtefjibjojkjiiaaDkJ
import Derived.Below
set_option linter.all false
namespace Go.Proofs
open Go Go.Sh Go.RowKit DkSpec
set_option linter.unusedSimpArgs false
set_option linter.unusedVariables false
set_option maxRecDepth 10000
/-! ### a row that lies below a bound -/
def RowN {α : Type} (mk : α → List Value) (N : Nat) (w : World) (v : Value) (l : List α) : Prop :=
  ∃ ad c, v = .slice ad l.length c ∧ (ad = none → l.length = 0 ∧ c = 0) ∧ (l = [] ∨ ∃ b o, ad = some ⟨b, o, none⟩ ∧ b < N ∧ ∀ (k : Nat) (x : Value), (flat mk l)[k]? = some x → w.cell? ⟨b, o + k, none⟩ = some x)
theorem RowN.row {α : Type} {mk : α → List Value} {N sz : Nat} {w : World} {v : Value} {l : List α} (h : RowN mk N w v l) (hN : N ≤ w.heap.size) : RowR mk sz w v l := by
  obtain ⟨ad, c, h1, h2, h3⟩ := h
  exact ⟨ad, c, h1, h2, h3.imp id (fun ⟨b, o, h4, h5, h6⟩ => ⟨b, o, h4, by omega, h6⟩)⟩
theorem RowN.below {α : Type} {mk : α → List Value} {N : Nat} {w w' : World} {v : Value} {l : List α} (h : RowN mk N w v l) (hb : Below N w w') : RowN mk N w' v l := by
  obtain ⟨ad, c, h1, h2, h3⟩ := h
  exact ⟨ad, c, h1, h2, h3.imp id (fun ⟨b, o, h4, h5, h6⟩ => ⟨b, o, h4, h5, fun k x hk => by rw [hb.cell h5]; exact h6 k x hk⟩)⟩
section
variable {n : Nat} {w w1 : World} {b b' : Nat} {A A' A1 : Ab} {h h' h1 : Dk} {K : Value → World → Prop}
theorem below_fr {S : Nat → Prop} (f : Fr S w w1) (hs : ∀ i, i < w.heap.size → S i → n ≤ i) (hn : n ≤ w.heap.size) : Below n w w1 :=
  ⟨f.os, f.tape, f.output, f.size, fun k hk => f.block k (by omega) (fun hS => by have := hs k (by omega) hS; omega)⟩
theorem below_none (f : Fr (fun _ => False) w w1) : Below w.heap.size w w1 := below_fr f (fun _ _ h => h.elim) (Nat.le_refl _)
theorem Step.below (t : Step w b h w1 h1) (ho : ∀ i, Own b h i → n ≤ i) (hn : n ≤ w.heap.size) : Below n w w1 := below_fr t.fr (fun i _ h => ho i h) hn
theorem Step.owns (t : Step w b h w1 h1) (ho : ∀ i, Own b h i → n ≤ i) (hn : n ≤ w.heap.size) : ∀ i, Own b h1 i → n ≤ i := fun i hi => (t.own i hi).elim (ho i) (fun e => by omega)
/-! ### two disks that share nothing but what is only read -/
structure Two (n : Nat) (w : World) (b : Nat) (A : Ab) (h : Dk) (b' : Nat) (A' : Ab) (h' : Dk) : Prop where
  one : IsDk w b A h
  two : IsDk w b' A' h'
  o1 : ∀ i, Own b h i → n ≤ i
  o2 : ∀ i, Own b' h' i → n ≤ i
  s1 : ∀ i, Own b h i → ¬ (Own b' h' i ∨ Rdb h' i)
  s2 : ∀ i, Own b' h' i → ¬ (Own b h i ∨ Rdb h i)
theorem Two.swap (D : Two n w b A h b' A' h') : Two n w b' A' h' b A h := ⟨D.two, D.one, D.o2, D.o1, D.s2, D.s1⟩
theorem Two.le (D : Two n w b A h b' A' h') : n ≤ w.heap.size := by
  have h1 := D.o1 b (.inl rfl)
  have h2 := D.one.lt (.inl (.inl rfl))
  omega
theorem Two.left (D : Two n w b A h b' A' h') (d : IsDk w1 b A1 h1) (t : Step w b h w1 h1) : Two n w1 b A1 h1 b' A' h' := by
  refine ⟨d, D.two.keep (fun i hi => t.fr.block i (D.two.lt hi) (fun ho => D.s1 i ho hi)), t.owns D.o1 D.le, D.o2, ?_, ?_⟩
  · intro i hi hj
    rcases t.own i hi with e | e
    · exact D.s1 i e hj
    · have := D.two.lt hj; omega
  · intro i hi hj
    have hlt := D.two.lt (.inl hi)
    rcases hj with hj | hj
    · rcases t.own i hj with e | e
      · exact D.s2 i hi (.inl e)
      · omega
    · rcases t.rd i hj with e | e
      · exact D.s2 i hi (.inr e)
      · omega
theorem Two.right {A1 : Ab} {h1 : Dk} (D : Two n w b A h b' A' h') (d : IsDk w1 b' A1 h1) (t : Step w b' h' w1 h1) : Two n w1 b A h b' A1 h1 := (D.swap.left d t).swap
theorem Two.fresh (D : Two n w b A h b' A' h') (f : Fr (fun _ => False) w w1) : Two n w1 b A h b' A' h' := ⟨D.one.fresh f, D.two.fresh f, D.o1, D.o2, D.s1, D.s2⟩
theorem two_copy (d0 : IsDk w b A h) (ho : ∀ i, Own b h i → n ≤ i) (d : IsDk w1 b A h) (d' : IsDk w1 b' A' h') (f : Fr (fun _ => False) w w1) (hw : ∀ i, Own b' h' i → w.heap.size ≤ i) (hr : ∀ i, Rdb h' i → Rdb h i) : Two n w1 b A h b' A' h' := by
  have hb := ho b (.inl rfl)
  have hb2 := d0.lt (.inl (.inl rfl))
  refine ⟨d, d', ho, fun i hi => by have := hw i hi; omega, ?_, ?_⟩
  · rintro i hi (hj | hj)
    · have := hw i hj
      have := d0.lt (.inl hi)
      omega
    · have := d0.kne (hr i hj)
      rcases hi with rfl | rfl | rfl | hi
      · exact this.1 rfl
      · exact this.2.1 rfl
      · exact this.2.2.1 rfl
      · exact this.2.2.2 hi
  · intro i hi hj
    have := hw i hi
    have := d0.lt hj
    omega
theorem two_new (d0 : IsDk w b A h) (ho : ∀ i, Own b h i → n ≤ i) (d' : IsDk w1 b' A' h') (f : Fr (fun _ => False) w w1) (hw : ∀ i, Own b' h' i → w.heap.size ≤ i) (hr : ∀ i, ¬ Rdb h' i) : Two n w1 b A h b' A' h' := by
  have hb := ho b (.inl rfl)
  have hb2 := d0.lt (.inl (.inl rfl))
  refine ⟨d0.fresh f, d', ho, fun i hi => by have := hw i hi; omega, ?_, ?_⟩
  · rintro i hi (hj | hj)
    · have := hw i hj
      have := d0.lt (.inl hi)
      omega
    · exact hr i hj
  · intro i hi hj
    have := hw i hi
    have := d0.lt hj
    omega
end
/-! ### the examples of the document -/
def sA1 : Ab := (writeA newA 0 0 [97, 98, 99]).2
def sA2 : Ab := (syncA sA1 0).2
def sA3 : Ab := (writeA sA2 0 1 [88, 89]).2
def sA4 : Ab := crashA sA3 [1]
def sC1 : Ab := crashA sA3 [0]
def sC3 : Ab := (writeA (startA sC1) 1 62 [97, 98, 99, 100]).2
def sC4 : Ab := crashA sC3 [0, 1]
def sC6 : Ab := (writeA (startA sC4) 16 0 []).2
theorem se1 : (writeA newA 0 0 [97, 98, 99]).1 = 0 := by decide +kernel
theorem se2 : (syncA sA1 0).1 = 0 := by decide +kernel
theorem se4 : sA4.down = true := by decide +kernel
theorem se5 : readA sA4 0 0 9 = ([], 8) := by decide +kernel
theorem se6 : readA (startA sA4) 0 0 9 = ([97, 88, 89], 0) := by decide +kernel
theorem se7 : readA (startA sC1) 0 1 9 = ([98, 99], 0) := by decide +kernel
theorem se8 : (writeA (startA sC1) 1 62 [97, 98, 99, 100]).1 = 0 := by decide +kernel
theorem se9 : readA (startA sC4) 1 60 100 = ([0, 0, 0, 0, 99, 100], 0) := by decide +kernel
theorem se10 : ((startA sC4).F 1).1.length = 66 := by decide +kernel
theorem se11 : (writeA (startA sC4) 16 0 []).1 = 1 := by decide +kernel
theorem se12 : (writeA sC6 1 16777216 [97]).1 = 6 := by decide +kernel
end Go.Proofs
