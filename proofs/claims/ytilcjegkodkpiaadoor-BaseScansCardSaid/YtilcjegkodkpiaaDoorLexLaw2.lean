/- LexLaw2: a part of the proof of the seat's statements: lemmas about the given translation and plain laws. No condition of its own. -/
import Derived.Test.YtilcjegkodkpiaaDoorLexLaw
set_option linter.all false
namespace LexSpec
open Go.Proofs
theorem letter_inner (c : UInt8) (h : isLetter c = true) : isInner c = true := by simp [isInner, h]
theorem digit_letter (c : UInt8) (h : isDigit c = true) : isLetter c = false := by
  simp only [isDigit, isLetter] at *
  grind
theorem sign_facts : ∀ t ∈ signs, ∀ r, sep r → next (t ++ r) = .ok (⟨3, t, 0, 0⟩, t.length) := by
  intro t ht r hr
  rcases hr with rfl | ⟨r', rfl⟩
  · have : ∀ t ∈ signs, next (t ++ []) = .ok (⟨3, t, 0, 0⟩, t.length) := by
      intro t ht
      simp only [signs, List.mem_cons, List.not_mem_nil, or_false] at ht
      rcases ht with rfl | rfl | rfl | rfl | rfl | rfl | rfl | rfl | rfl | rfl | rfl | rfl | rfl | rfl | rfl | rfl | rfl | rfl | rfl <;> rfl
    exact this t ht
  · have : ∀ t ∈ signs, next (t ++ 32 :: r') = .ok (⟨3, t, 0, 0⟩, t.length) := by
      intro t ht
      simp only [signs, List.mem_cons, List.not_mem_nil, or_false] at ht
      rcases ht with rfl | rfl | rfl | rfl | rfl | rfl | rfl | rfl | rfl | rfl | rfl | rfl | rfl | rfl | rfl | rfl | rfl | rfl | rfl <;> rfl
    exact this t ht
theorem next_piece (t : Tok) (h : good t) (r : List UInt8) (hr : sep r) : next (piece t ++ r) = .ok ({ t with pos := 0 }, (piece t).length) := by
  obtain ⟨k, x, n, p⟩ := t
  rcases h with ⟨h1, h2, h3⟩ | ⟨h1, h2, h3⟩ | ⟨h1, h2, h3, h4⟩ | ⟨h1, h2, h3⟩
  · simp only at h1 h2 h3
    subst h1 h3
    have hp : piece ⟨0, x, 0, p⟩ = x := rfl
    rw [hp]
    cases x with
    | nil => simp [nameOk] at h2
    | cons c x =>
      have h2' := h2
      simp only [nameOk, Bool.and_eq_true, decide_eq_true_eq] at h2'
      have ht := takeWhile_sep isInner (by decide) (c :: x) r (spanN_all _ _ h2'.2) hr
      rw [next_cons (c :: x ++ r) c (x ++ r) rfl, ht, if_pos h2'.1.1, if_pos h2]
  · simp only at h1 h2 h3
    subst h1 h3
    have hp : piece ⟨1, x, numVal x, p⟩ = x := rfl
    rw [hp]
    cases x with
    | nil => simp [numberOk] at h2
    | cons c x =>
      have h2' := h2
      simp only [numberOk, decide_eq_true_eq] at h2'
      have hd := spanN_all _ _ h2'.1
      have ht := takeWhile_sep isDigit (by decide) (c :: x) r hd hr
      have hcd := hd c (by simp)
      rw [next_cons (c :: x ++ r) c (x ++ r) rfl, ht, digit_letter c hcd, if_neg (by decide), if_pos hcd, if_pos h2]
  · simp only at h1 h2 h3 h4
    subst h1 h2
    have hp : piece ⟨2, x, 0, p⟩ = escaped x := rfl
    rw [hp]
    have hq : LexSpec.quoted (escaped x ++ r) = some (x, (escaped x).length) := by
      have := quotedGo_esc x r h4
      simp only [escaped, List.cons_append, List.append_assoc, List.nil_append]
      unfold LexSpec.quoted
      simp only [List.drop_succ_cons, List.drop_zero, this, h3, if_true]
      simp
    rw [next_cons (escaped x ++ r) 34 (escL x ++ [34] ++ r) rfl, hq]
    rfl
  · simp only at h1 h2 h3
    subst h1 h2
    exact sign_facts x h3 r hr
end LexSpec
