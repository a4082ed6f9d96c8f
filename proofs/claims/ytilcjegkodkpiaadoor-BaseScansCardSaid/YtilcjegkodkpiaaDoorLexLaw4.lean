/- LexLaw4: a part of the proof of the seat's statements: lemmas about the given translation and plain laws. No condition of its own. -/
import Derived.Test.YtilcjegkodkpiaaDoorLexLaw3
set_option linter.all false
namespace LexSpec
open Go.Proofs
set_option linter.unusedSimpArgs false
theorem scanF_fuel (f : Nat) : ∀ (g : Nat) (l : Bytes) (a : Nat), l.length < f → l.length < g → scanF f l a = scanF g l a := by
  induction f with
  | zero => intro g l a hf; omega
  | succ f ih =>
    intro g l a hf hg
    obtain ⟨g, rfl⟩ : ∃ k, g = k + 1 := ⟨g - 1, by omega⟩
    rw [scanF, scanF]
    cases hd : l.drop (gap l) with
    | nil => rfl
    | cons c r =>
      cases hn : next (c :: r) with
      | error e => simp only [hn]
      | ok x =>
        obtain ⟨t, n⟩ := x
        have hle := next_le _ _ _ hn
        have hlen : (c :: r).length ≤ l.length := by rw [← hd]; simp
        have hdl : ((c :: r).drop n).length = (c :: r).length - n := List.length_drop
        simp only [hn]
        rw [ih g _ _ (by omega) (by omega)]
theorem scanF_shift (f : Nat) : ∀ (l : Bytes) (a k : Nat), scanF f l (a + k) = match scanF f l a with | .error (p, e) => .error (p + k, e) | .ok ts => .ok (ts.map fun t => { t with pos := t.pos + k }) := by
  induction f with
  | zero => intro l a k; rfl
  | succ f ih =>
    intro l a k
    rw [scanF, scanF]
    cases hd : l.drop (gap l) with
    | nil => rfl
    | cons c r =>
      cases hn : next (c :: r) with
      | error e => simp only [hn]; rw [show a + k + gap l = a + gap l + k from by omega]
      | ok x =>
        obtain ⟨t, n⟩ := x
        simp only [hn]
        rw [show a + k + gap l + n = a + gap l + n + k from by omega, ih]
        cases scanF f ((c :: r).drop n) (a + gap l + n) with
        | error x => rfl
        | ok ts => simp; omega
theorem gapL_join (l r : Bytes) : ∀ b, gapL (l ++ 10 :: r) b = if gapL l b = l.length then l.length + 1 + gapL r false else gapL l b := by
  induction l with
  | nil =>
    intro b
    cases b
    · simp only [List.nil_append, gapL, if_true, List.length_nil]
      rw [if_pos (by decide)]; omega
    · simp only [List.nil_append, gapL, if_true, List.length_nil]
      rw [if_pos (by decide)]; omega
  | cons c l ih =>
    intro b
    have h1 := ih true
    have h2 := ih false
    cases b <;> simp only [List.cons_append, gapL, List.length_cons] <;> repeat' split
    all_goals simp_all
    all_goals omega
theorem takeWhile_join (p : UInt8 → Bool) (hp : p 10 = false) (l r : Bytes) : (l ++ 10 :: r).takeWhile p = l.takeWhile p := by
  induction l with
  | nil => simp [hp]
  | cons c l ih => simp only [List.cons_append, List.takeWhile_cons, ih]
theorem quotedGo_join (l r : Bytes) : quotedGo (l ++ 10 :: r) = quotedGo l := by
  induction l using quotedGo.induct with
  | case1 =>
    rw [List.nil_append, quotedGo_cons, if_neg (by decide)]
    rfl
  | case3 c hp h1 h2 =>
    rw [List.cons_append, List.nil_append, quotedGo_cons c (10 :: r), quotedGo_cons c []]
    simp only [hp, if_true, h1, h2, Bool.false_eq_true, if_false]
    rfl
  | case4 c hp h1 h2 d r' hd ih =>
    rw [List.cons_append, List.cons_append, quotedGo_cons c (d :: (r' ++ 10 :: r)), quotedGo_cons c (d :: r')]
    simp only [hp, if_true, h1, h2, hd, Bool.false_eq_true, if_false, ih]
  | case5 c hp h1 h2 d r' hd =>
    rw [List.cons_append, List.cons_append, quotedGo_cons c (d :: (r' ++ 10 :: r)), quotedGo_cons c (d :: r')]
    simp only [hp, if_true, h1, h2, hd, Bool.false_eq_true, if_false]
  | case6 c tail hp h1 h2 ih =>
    rw [List.cons_append, quotedGo_cons c (tail ++ 10 :: r), quotedGo_cons c tail]
    simp only [hp, if_true, h1, h2, Bool.false_eq_true, if_false, ih]
  | case2 c r' hp h1 =>
    rw [List.cons_append, quotedGo_cons c (r' ++ 10 :: r), quotedGo_cons c r']
    simp only [hp, if_true, h1]
  | case7 c r' hp =>
    rw [List.cons_append, quotedGo_cons c (r' ++ 10 :: r), quotedGo_cons c r']
    simp only [hp, Bool.false_eq_true, if_false]
theorem prefix_join (t : Bytes) (h : (10 : UInt8) ∉ t) : ∀ (l r : Bytes), t.isPrefixOf (l ++ 10 :: r) = t.isPrefixOf l := by
  induction t with
  | nil => intro l r; simp
  | cons x t ih =>
    intro l r
    simp only [List.mem_cons, not_or] at h
    cases l with
    | nil =>
      have : (x == 10) = false := by simp only [beq_eq_false_iff_ne, ne_eq]; exact fun e => h.1 e.symm
      simp [List.isPrefixOf, this]
    | cons y l => simp only [List.cons_append, List.isPrefixOf, ih h.2]
theorem find_congr {α : Type} (p q : α → Bool) (L : List α) (h : ∀ s ∈ L, p s = q s) : L.find? p = L.find? q := by
  induction L with
  | nil => rfl
  | cons s L ih => simp only [List.find?_cons, h s (by simp), ih (fun u hu => h u (by simp [hu]))]
theorem next_join (l r : Bytes) (h : l ≠ []) : next (l ++ 10 :: r) = next l := by
  cases l with
  | nil => exact absurd rfl h
  | cons c l =>
    have hs : signs.find? (fun t => t.isPrefixOf (c :: l ++ 10 :: r)) = signs.find? (fun t => t.isPrefixOf (c :: l)) := by
      refine find_congr _ _ _ fun t ht => prefix_join t ?_ _ _
      revert t
      decide
    have hq : LexSpec.quoted (c :: l ++ 10 :: r) = LexSpec.quoted (c :: l) := by
      unfold LexSpec.quoted
      simp only [List.cons_append, List.drop_succ_cons, List.drop_zero, quotedGo_join]
    rw [next_cons (c :: l ++ 10 :: r) c (l ++ 10 :: r) rfl, next_cons (c :: l) c l rfl, takeWhile_join _ (by decide), takeWhile_join _ (by decide), hs, hq]
theorem scanF_join (f : Nat) : ∀ (l r : Bytes) (a F g : Nat), l.length < f → l.length + 1 + r.length < F → r.length < g →
    scanF F (l ++ 10 :: r) a = match scanF f l a with
      | .error x => .error x
      | .ok ts => match scanF g r (a + l.length + 1) with
        | .error x => .error x
        | .ok us => .ok (ts ++ us) := by
  induction f with
  | zero => intro l r a F g h; omega
  | succ f ih =>
    intro l r a F g hf hF hg
    obtain ⟨F, rfl⟩ : ∃ k, F = k + 1 := ⟨F - 1, by omega⟩
    have hgj := gapL_join l r false
    by_cases hG : gapL l false = l.length
    · rw [if_pos hG] at hgj
      have e1 : scanF (f + 1) l a = .ok [] := by
        rw [scanF]
        have : l.drop (gap l) = [] := by rw [gap, hG, List.drop_length]
        rw [this]
      have e2 : scanF (F + 1) (l ++ 10 :: r) a = scanF (F + 1) r (a + l.length + 1) := by
        rw [scanF, scanF]
        have d1 : (l ++ 10 :: r).drop (gap (l ++ 10 :: r)) = r.drop (gap r) := by
          rw [gap, hgj, gap, show l.length + 1 + gapL r false = l.length + (1 + gapL r false) from by omega, ← List.drop_drop, List.drop_left]
          rw [show 1 + gapL r false = gapL r false + 1 from by omega, List.drop_succ_cons]
        have d2 : a + gap (l ++ 10 :: r) = a + l.length + 1 + gap r := by rw [gap, hgj, gap]; omega
        rw [d1, d2]
      rw [e1, e2, scanF_fuel (F + 1) g r _ (by omega) hg]
      cases scanF g r (a + l.length + 1) <;> rfl
    · rw [if_neg hG] at hgj
      have hle := gapL_le l false
      have hlt : gap l < l.length := by unfold gap; omega
      have hd : (l ++ 10 :: r).drop (gap (l ++ 10 :: r)) = l.drop (gap l) ++ 10 :: r := by
        rw [gap, hgj, List.drop_append_of_le_length hle]; rfl
      have hge : gap (l ++ 10 :: r) = gap l := hgj
      have hne : l.drop (gap l) ≠ [] := by rw [Ne, List.drop_eq_nil_iff]; omega
      have hnj := next_join (l.drop (gap l)) r hne
      rw [scanF, scanF, hd, hge]
      cases hx : l.drop (gap l) with
      | nil => exact absurd hx hne
      | cons c s =>
        rw [hx] at hnj
        simp only [List.cons_append] at hnj ⊢
        simp only [hnj]
        cases hn : next (c :: s) with
        | error e => rfl
        | ok y =>
          obtain ⟨t, n⟩ := y
          obtain ⟨n1, n2, _⟩ := next_le _ _ _ hn
          have hlen : (c :: s).length = l.length - gap l := by rw [← hx, List.length_drop]
          have hdl : ((c :: s).drop n).length = (c :: s).length - n := List.length_drop
          have hdd : (c :: (s ++ 10 :: r)).drop n = (c :: s).drop n ++ 10 :: r := by
            have := List.drop_append_of_le_length (l₁ := c :: s) (l₂ := 10 :: r) (i := n) n2
            exact this
          simp only
          rw [hdd, ih ((c :: s).drop n) r (a + gap l + n) F g (by omega) (by omega) hg, show a + gap l + n + ((c :: s).drop n).length + 1 = a + l.length + 1 from by omega]
          cases scanF f ((c :: s).drop n) (a + gap l + n) with
          | error x => rfl
          | ok ts => cases scanF g r (a + l.length + 1) <;> rfl
/-- the scan of two texts with a line feed between them -/
theorem scan_join (x y : Bytes) (h : x.length + 1 + y.length ≤ 4000) : scan (x ++ 10 :: y) = match scan x with
    | .error e => .error e
    | .ok ts => match scan y with
      | .error (p, e) => .error (p + x.length + 1, e)
      | .ok us => .ok (ts ++ us.map fun t => { t with pos := t.pos + (x.length + 1) }) := by
  unfold scan
  rw [if_neg (by simp; omega), if_neg (by omega), if_neg (by omega), scanF_join (x.length + 1) x y 0 _ (y.length + 1) (by omega) (by simp; omega) (by omega)]
  rw [show 0 + x.length + 1 = 0 + (x.length + 1) from by omega, scanF_shift]
  cases scanF (x.length + 1) x 0 with
  | error e => rfl
  | ok ts => cases scanF (y.length + 1) y 0 <;> rfl
end LexSpec
