/- Lex8: a part of the proof of the seat's statements: lemmas about the given translation and plain laws. No condition of its own. -/
import Derived.Test.YtilcjegkodkpiaaDoorLex7
set_option linter.all false
namespace Go.Proofs
open Go Go.Sh Go.RowKit Go.Lib LexSpec
set_option linter.unusedSimpArgs false
/-- a row of tokens that can be read -/
def TokRow (w : World) (v : Value) (ts : List Tok) : Prop := ∃ a c, v = .slice a ts.length c ∧ (ts = [] ∨ ∃ b o, a = some ⟨b, o, none⟩ ∧ b < w.heap.size ∧
  ∀ j (hj : j < ts.length), w.cell? ⟨b, o + 4 * j, none⟩ = some (.int .i64 ts[j].kind) ∧ w.cell? ⟨b, o + 4 * j + 1, none⟩ = some (.string ⟨ts[j].text.toArray⟩) ∧ w.cell? ⟨b, o + 4 * j + 2, none⟩ = some (.int .i64 ts[j].n) ∧ w.cell? ⟨b, o + 4 * j + 3, none⟩ = some (.int .i64 ts[j].pos))
theorem TokRow.below {w w' : World} {v : Value} {ts : List Tok} (h : TokRow w v ts) (hb : Below w.heap.size w w') : TokRow w' v ts := by
  obtain ⟨a, c, rfl, h⟩ := h
  refine ⟨a, c, rfl, ?_⟩
  rcases h with h | ⟨b, o, rfl, hlt, h⟩
  · exact .inl h
  · refine .inr ⟨b, o, rfl, Nat.lt_of_lt_of_le hlt hb.size, fun j hj => ?_⟩
    obtain ⟨h0, h1, h2, h3⟩ := h j hj
    exact ⟨by rw [hb.cell hlt]; exact h0, by rw [hb.cell hlt]; exact h1, by rw [hb.cell hlt]; exact h2, by rw [hb.cell hlt]; exact h3⟩
theorem toksC_get (ts : List Tok) (j : Nat) (hj : j < ts.length) (i : Nat) (hi : i < 4) : (toksC ts)[4 * j + i]? = (tokC ts[j])[i]? := by
  induction ts generalizing j with
  | nil => simp at hj
  | cons t r ih =>
    have e : toksC (t :: r) = tokC t ++ toksC r := by simp [toksC]
    rw [e]
    cases j with
    | zero => rw [List.getElem?_append_left (by simp [tokC]; omega)]; simp
    | succ k =>
      rw [List.getElem?_append_right (by simp [tokC]; omega)]
      have := ih k (by simpa using hj)
      rw [show 4 * (k + 1) + i - (tokC t).length = 4 * k + i from by simp [tokC]; omega, this]
      simp
theorem TokRow.own {w : World} {B : Nat} {v : Value} {ts : List Tok} (h : w.ownsRow B 32 4 v ts.length (toksC ts)) : TokRow w v ts := by
  rcases h.2 with ⟨rfl, h0⟩ | ⟨g, cap, cur, rfl, hb, hg, hn, hm, hcs, ht⟩
  · exact ⟨none, 0, by rw [h0], .inl (List.eq_nil_of_length_eq_zero h0)⟩
  · refine ⟨_, _, rfl, .inr ⟨g, 0, rfl, (Array.getElem?_eq_some_iff.1 hg).1, fun j hj => ?_⟩⟩
    have hc : ∀ i < 4, w.cell? ⟨g, 0 + 4 * j + i, none⟩ = (tokC ts[j])[i]? := by
      intro i hi
      rw [← toksC_get ts j hj i hi, ← ht, List.getElem?_take_of_lt (by omega)]
      unfold World.cell?
      rw [hg]
      simp
    exact ⟨hc 0 (by omega), hc 1 (by omega), hc 2 (by omega), hc 3 (by omega)⟩
end Go.Proofs
