/- LexLaw: a part of the proof of the seat's statements: lemmas about the given translation and plain laws. No condition of its own. -/
import Derived.Test.YtilcjegkodkpiaaDoorLex7
set_option linter.all false
namespace LexSpec
open Go.Proofs
/-- what a token of a scanned text is -/
def good (t : Tok) : Prop := (t.kind = 0 ∧ nameOk t.text = true ∧ t.n = 0) ∨ (t.kind = 1 ∧ numberOk t.text = true ∧ t.n = numVal t.text) ∨ (t.kind = 2 ∧ t.n = 0 ∧ t.text.length ≤ 400 ∧ (∀ c ∈ t.text, isPlain c = true)) ∨ (t.kind = 3 ∧ t.n = 0 ∧ t.text ∈ signs)
theorem quotedGo_good (l : List UInt8) : ∀ v n, quotedGo l = some (v, n) → (∀ c ∈ v, isPlain c = true) ∧ l.take n = escL v ++ [34] := by
  induction l using quotedGo.induct with
  | case1 => intro v n h; simp [quotedGo] at h
  | case2 c r hp h1 =>
    intro v n h
    rw [quotedGo_cons] at h
    simp [hp, h1] at h
    obtain ⟨rfl, rfl⟩ := h
    simp [escL] at h1 ⊢
    exact h1
  | case4 c hp h1 h2 d r' hd ih =>
    intro v n h
    rw [quotedGo_cons] at h
    simp only [hp, if_true, h1, h2, hd, Bool.false_eq_true, if_false, Option.map_eq_some_iff] at h
    obtain ⟨⟨v', n'⟩, hq, he⟩ := h
    cases he
    obtain ⟨i1, i2⟩ := ih _ _ hq
    have hdp : isPlain d = true := by
      simp at hd
      rcases hd with rfl | rfl <;> decide
    refine ⟨fun c hc => ?_, ?_⟩
    · rcases List.mem_cons.1 hc with rfl | hc
      · exact hdp
      · exact i1 c hc
    · have e : escL (d :: v') = [92, d] ++ escL v' := by
        have : escL (d :: v') = (if d == 34 || d == 92 then [92, d] else [d]) ++ escL v' := by simp [escL]
        rw [this, if_pos hd]
      rw [e, List.take_succ_cons, List.take_succ_cons, i2]
      have : c = 92 := by simpa using h2
      subst this
      simp
  | case6 c tail hp h1 h2 ih =>
    intro v n h
    rw [quotedGo_cons] at h
    simp only [hp, if_true, h1, h2, Bool.false_eq_true, if_false, Option.map_eq_some_iff] at h
    obtain ⟨⟨v', n'⟩, hq, he⟩ := h
    cases he
    obtain ⟨i1, i2⟩ := ih _ _ hq
    refine ⟨fun d hd => ?_, ?_⟩
    · rcases List.mem_cons.1 hd with rfl | hd
      · exact hp
      · exact i1 d hd
    · have e : escL (c :: v') = [c] ++ escL v' := by
        have : escL (c :: v') = (if c == 34 || c == 92 then [92, c] else [c]) ++ escL v' := by simp [escL]
        rw [this, if_neg (by simp only [Bool.or_eq_true, not_or]; exact ⟨h1, h2⟩)]
      rw [e, List.take_succ_cons, i2]
      simp
  | _ =>
    intro v n h
    rw [quotedGo_cons] at h
    simp_all
theorem takeWhile_take (p : UInt8 → Bool) (l : List UInt8) : l.take (l.takeWhile p).length = l.takeWhile p := take_inner p l
theorem next_good (l : List UInt8) : ∀ t n, next l = .ok (t, n) → good t ∧ l.take n = piece t ∧ t.pos = 0 := by
  intro t n h
  cases l with
  | nil => simp [next] at h
  | cons c r =>
    rw [next_cons (c :: r) c r rfl] at h
    split at h
    · split at h
      · rename_i h2
        cases h
        exact ⟨.inl ⟨rfl, h2, rfl⟩, takeWhile_take _ _, rfl⟩
      · cases h
    · split at h
      · split at h
        · rename_i h2
          cases h
          exact ⟨.inr (.inl ⟨rfl, h2, rfl⟩), takeWhile_take _ _, rfl⟩
        · cases h
      · split at h
        · rename_i h34
          have hc : c = 34 := by simpa using h34
          subst hc
          split at h
          · rename_i v n' hq
            cases h
            unfold LexSpec.quoted at hq
            split at hq
            · rename_i v2 n2 hq2
              have hg := quotedGo_good _ _ _ hq2
              split at hq
              · rename_i h400
                cases hq
                refine ⟨.inr (.inr (.inl ⟨rfl, rfl, h400, hg.1⟩)), ?_, rfl⟩
                have h3 := hg.2
                simp only [List.drop_succ_cons, List.drop_zero] at h3
                simp [piece, escaped, h3]
              · cases hq
            · cases hq
          · cases h
        · split at h
          · rename_i t' hf
            cases h
            have hm := List.mem_of_find?_eq_some hf
            have hp0 := List.find?_some hf
            have hp := List.isPrefixOf_iff_prefix.1 hp0
            refine ⟨.inr (.inr (.inr ⟨rfl, rfl, hm⟩)), ?_, rfl⟩
            exact (List.prefix_iff_eq_take.1 hp).symm
          · cases h
def total (ts : List Tok) : Nat := (ts.map (fun t => (piece t).length)).foldr (· + ·) 0
theorem scanF_good (f : Nat) : ∀ l a ts, scanF f l a = .ok ts → (∀ t ∈ ts, good t) ∧ total ts ≤ l.length ∧ ts.length ≤ l.length := by
  induction f with
  | zero => intro l a ts h; cases h; simp [total]
  | succ f ih =>
    intro l a ts h
    rw [scanF] at h
    split at h
    · cases h; simp [total]
    · rename_i r hr
      split at h
      · cases h
      · rename_i t n hn
        split at h
        · cases h
        · rename_i ts' hts
          cases h
          obtain ⟨i1, i2, i3⟩ := ih _ _ _ hts
          obtain ⟨g1, g2, g3⟩ := next_good _ _ _ hn
          obtain ⟨n1, n2, _⟩ := next_le _ _ _ hn
          have hpl : (piece t).length = n := by rw [← g2, List.length_take]; omega
          have hdl : (l.drop (gap l)).length ≤ l.length := by simp
          rw [List.length_drop] at i2 i3
          refine ⟨?_, ?_, ?_⟩
          · intro x hx
            rcases List.mem_cons.1 hx with rfl | hx
            · exact g1
            · exact i1 x hx
          · have e : total ({ t with pos := a + gap l } :: ts') = (piece t).length + total ts' := rfl
            rw [e]; omega
          · rw [List.length_cons]; omega
/-- what may follow a printed token -/
def sep (r : List UInt8) : Prop := r = [] ∨ ∃ r', r = 32 :: r'
theorem takeWhile_sep (p : UInt8 → Bool) (hp : p 32 = false) (l r : List UInt8) (hl : ∀ c ∈ l, p c = true) (hr : sep r) : (l ++ r).takeWhile p = l := by
  rw [List.takeWhile_append_of_pos hl]
  rcases hr with rfl | ⟨r', rfl⟩
  · simp
  · simp [hp]
theorem spanN_all (p : UInt8 → Bool) (l : List UInt8) (h : spanN p l = l.length) : ∀ c ∈ l, p c = true := by
  induction l with
  | nil => simp
  | cons c l ih =>
    by_cases hc : p c = true
    · have hs : spanN p (c :: l) = spanN p l + 1 := by simp [spanN, hc]
      rw [hs] at h
      intro d hd
      rcases List.mem_cons.1 hd with rfl | hd
      · exact hc
      · exact ih (by simpa using h) d hd
    · have hs : spanN p (c :: l) = 0 := by simp [spanN, hc]
      rw [hs] at h; simp at h
theorem quotedGo_esc (v r : List UInt8) (h : ∀ c ∈ v, isPlain c = true) : quotedGo (escL v ++ 34 :: r) = some (v, (escL v).length + 1) := by
  induction v with
  | nil => simp [escL, quotedGo_cons]; decide
  | cons c v ih =>
    have hc := h c (by simp)
    have ih := ih (fun d hd => h d (by simp [hd]))
    have e : escL (c :: v) = (if c == 34 || c == 92 then [92, c] else [c]) ++ escL v := by simp [escL]
    by_cases hq : (c == 34 || c == 92) = true
    · rw [e, if_pos hq]
      simp only [List.cons_append, List.nil_append, List.append_assoc]
      rw [quotedGo_cons]
      have h92 : isPlain 92 = true := by decide
      simp only [h92, if_true]
      rw [if_neg (by decide), if_pos (by decide)]
      simp [hq, ih]
    · rw [e, if_neg hq]
      simp only [List.cons_append, List.nil_append]
      rw [quotedGo_cons]
      simp only [Bool.or_eq_true, not_or] at hq
      simp [hc, hq.1, hq.2, ih]
end LexSpec
