/- ShMap6: a part of the proof of the seat's statements: lemmas about the given translation and plain laws. No condition of its own. -/
import Derived.Test.YtefjibjojkjiiaaShMap5
set_option linter.all false
namespace Go.Sh
open Go Go.RowKit
theorem nodup_sub_len {κ : Type} [DecidableEq κ] (d ks : List κ) (hn : d.Nodup) (hs : ∀ x ∈ d, x ∈ ks) : d.length ≤ ks.length := by
  induction d generalizing ks with
  | nil => simp
  | cons a d ih =>
    rw [List.nodup_cons] at hn
    have ha := hs a (List.mem_cons_self ..)
    have := ih (ks.erase a) hn.2 (fun x hx => by
      have hne : x ≠ a := fun e => hn.1 (by rw [← e]; exact hx)
      exact (List.mem_erase_of_ne hne).2 (hs x (List.mem_cons_of_mem _ hx)))
    rw [List.length_erase_of_mem ha] at this
    have := List.length_pos_of_mem ha
    simp only [List.length_cons]
    omega
@[go_sem] theorem oM_extract1 {P : Program} {K : Value → World → Prop} {w : World} (T : TypeId) (a : Value) : oM P (.extract (.tmp 0) 0) T [.tuple #[a]] K w = K a w := oM_of_run rfl
section
variable {w : World} {κ : Type} [DecidableEq κ] {mk : κ → Value}
theorem Ranged.seen {it b : Nat} {l : List (κ × Value)} {ks done : List κ} (h : Ranged mk w it b l ks done) : (w.iterSeen it).size = done.length := by
  obtain ⟨es, clock, seen, f, h1, h2, h3, h4, h5, h6, h7, h8, _⟩ := h
  unfold World.iterSeen
  rw [h2]
  have := congrArg List.length h8
  simpa using this
theorem Ranged.sub {it b : Nat} {l : List (κ × Value)} {ks done : List κ} (h : Ranged mk w it b l ks done) : ∀ a ∈ done, a ∈ ks := by
  obtain ⟨es, clock, seen, f, h1, h2, h3, h4, h5, h6, h7, h8, h9, h10⟩ := h
  exact h10
end
end Go.Sh
