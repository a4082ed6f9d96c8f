/- LexLaw3: a part of the proof of the seat's statements: lemmas about the given translation and plain laws. No condition of its own. -/
import Derived.Test.YtilcjegkodkpiaaDoorLexLaw2
import Derived.Test.YtilcjegkodkpiaaDoorLex15
set_option linter.all false
namespace LexSpec
open Go.Proofs
set_option linter.unusedSimpArgs false
def tailP (ts : List Tok) : Bytes := ts.flatMap (fun t => 32 :: piece t)
theorem tailP_cons (t : Tok) (ts : List Tok) : tailP (t :: ts) = 32 :: (piece t ++ tailP ts) := by simp [tailP]
theorem tailP_sep (ts : List Tok) : sep (tailP ts) := by
  cases ts with
  | nil => exact .inl rfl
  | cons t ts => exact .inr ⟨_, tailP_cons t ts⟩
theorem join_tail (t : Tok) (ts : List Tok) : LexSpec.print (t :: ts) = piece t ++ tailP ts := by
  unfold LexSpec.print
  induction ts generalizing t with
  | nil => simp [LexSpec.join, tailP]
  | cons u us ih =>
    have := ih u
    simp only [List.map_cons] at this ⊢
    rw [LexSpec.join, this, tailP_cons]
theorem head_letter (c : UInt8) (h : isLetter c = true) : isBlank c = false ∧ (c == 35) = false := by
  rw [isLetter_iff, decide_eq_true_eq] at h
  rw [isBlank_iff, u8_eq]
  simp only [decide_eq_false_iff_not]
  refine ⟨by omega, ?_⟩
  show ¬ c.toNat = 35
  omega
theorem head_digit (c : UInt8) (h : isDigit c = true) : isBlank c = false ∧ (c == 35) = false := by
  rw [isDigit_iff, decide_eq_true_eq] at h
  rw [isBlank_iff, u8_eq]
  simp only [decide_eq_false_iff_not]
  refine ⟨by omega, ?_⟩
  show ¬ c.toNat = 35
  omega
theorem good_head (t : Tok) (h : good t) : ∃ c x, piece t = c :: x ∧ isBlank c = false ∧ (c == 35) = false := by
  obtain ⟨k, x, n, p⟩ := t
  rcases h with ⟨h1, h2, h3⟩ | ⟨h1, h2, h3⟩ | ⟨h1, h2, h3, h4⟩ | ⟨h1, h2, h3⟩
  · simp only at h1 h2 h3
    subst h1 h3
    cases x with
    | nil => simp [nameOk] at h2
    | cons c x =>
      simp only [nameOk, Bool.and_eq_true, decide_eq_true_eq] at h2
      exact ⟨c, x, rfl, head_letter c h2.1.1⟩
  · simp only at h1 h2 h3
    subst h1 h3
    cases x with
    | nil => simp [numberOk] at h2
    | cons c x =>
      simp only [numberOk, decide_eq_true_eq] at h2
      exact ⟨c, x, rfl, head_digit c (spanN_all _ _ h2.1 c (by simp))⟩
  · simp only at h1 h2 h3 h4
    subst h1 h2
    exact ⟨34, _, rfl, by decide, by decide⟩
  · simp only at h1 h2 h3
    subst h1 h2
    have : ∀ x ∈ signs, ∃ c y, piece ⟨3, x, 0, p⟩ = c :: y ∧ isBlank c = false ∧ (c == 35) = false := by
      intro x hx
      simp only [signs, List.mem_cons, List.not_mem_nil, or_false] at hx
      rcases hx with rfl | rfl | rfl | rfl | rfl | rfl | rfl | rfl | rfl | rfl | rfl | rfl | rfl | rfl | rfl | rfl | rfl | rfl | rfl <;> exact ⟨_, _, rfl, by decide, by decide⟩
    exact this x h3
theorem gap_head (c : UInt8) (x : Bytes) (h1 : isBlank c = false) (h2 : (c == 35) = false) : gap (c :: x) = 0 := by
  simp [gap, gapL, h1, h2]
/-- one step of the scan where a token stands behind the gap -/
theorem scanF_step (f : Nat) (l : Bytes) (a : Nat) (t : Tok) (h : good t) (r : Bytes) (hr : sep r) (hl : l.drop (gap l) = piece t ++ r) :
    scanF (f + 1) l a = match scanF f r (a + gap l + (piece t).length) with | .error x => .error x | .ok ts => .ok ({ t with pos := a + gap l } :: ts) := by
  obtain ⟨c, x, hp, h1, h2⟩ := good_head t h
  have hn := next_piece t h r hr
  rw [scanF, hl]
  rw [hp] at hn ⊢
  simp only [List.cons_append] at hn ⊢
  simp only [hn]
  have : (c :: (x ++ r)).drop (c :: x).length = r := by
    have := List.drop_left (l₁ := c :: x) (l₂ := r)
    exact this
  rw [this]
  cases scanF f r (a + gap l + (c :: x).length) <;> rfl
theorem scan_tail (ts : List Tok) : (∀ t ∈ ts, good t) → ∀ f a, ts.length < f → ∃ ms, scanF f (tailP ts) a = .ok ms ∧ likeAll ts ms := by
  induction ts with
  | nil =>
    intro _ f a hf
    obtain ⟨f, rfl⟩ : ∃ g, f = g + 1 := ⟨f - 1, by simp at hf; omega⟩
    exact ⟨[], by simp [scanF, tailP, gap, gapL], rfl⟩
  | cons t ts ih =>
    intro hg f a hf
    obtain ⟨f, rfl⟩ : ∃ g, f = g + 1 := ⟨f - 1, by simp at hf; omega⟩
    have ht := hg t (by simp)
    obtain ⟨c, x, hp, h1, h2⟩ := good_head t ht
    have hgap : gap (tailP (t :: ts)) = 1 := by
      rw [tailP_cons, hp]
      simp only [gap, gapL, List.cons_append]
      rw [if_pos (by decide)]
      simp [h1, h2]
    obtain ⟨ms, hm, hl⟩ := ih (fun u hu => hg u (by simp [hu])) f (a + 1 + (piece t).length) (by simpa using hf)
    have hs := scanF_step f (tailP (t :: ts)) a t ht (tailP ts) (tailP_sep ts) (by rw [hgap, tailP_cons]; rfl)
    rw [hgap, hm] at hs
    refine ⟨_, hs, ?_⟩
    unfold likeAll at hl ⊢
    simp [hl]
theorem like_map {α : Type} (g : Tok → α) (hg : ∀ t p, g { t with pos := p } = g t) (ts ms : List Tok) (h : likeAll ts ms) : ts.map g = ms.map g := by
  unfold likeAll at h
  have := congrArg (List.map g) h
  simpa only [List.map_map, Function.comp_def, hg] using this
theorem tailP_len (ts : List Tok) : (tailP ts).length = total ts + ts.length := by
  induction ts with
  | nil => rfl
  | cons t ts ih =>
    rw [tailP_cons]
    have e : total (t :: ts) = (piece t).length + total ts := rfl
    simp only [List.length_cons, List.length_append]
    omega
theorem escL_ge (l : List UInt8) : l.length ≤ (escL l).length := by
  induction l with
  | nil => simp
  | cons c l ih =>
    have e : escL (c :: l) = (if c == 34 || c == 92 then [92, c] else [c]) ++ escL l := by simp [escL]
    rw [e]
    split <;> simp <;> omega
theorem piece_ge (t : Tok) : t.text.length ≤ (piece t).length := by
  unfold piece
  split
  · have := escL_ge t.text
    simp [LexSpec.escaped]
    omega
  · omega
theorem total_ge (ts : List Tok) : ∀ t ∈ ts, (piece t).length ≤ total ts := by
  induction ts with
  | nil => simp
  | cons u ts ih =>
    have e : total (u :: ts) = (piece u).length + total ts := rfl
    intro t ht
    rcases List.mem_cons.1 ht with rfl | ht
    · omega
    · have := ih t ht; omega
theorem tokensLaw : TokensLaw := by
  intro l ts hl hs
  have hs' : scanF (l.length + 1) l 0 = .ok ts := by
    unfold scan at hs
    rw [if_neg (by omega)] at hs
    exact hs
  obtain ⟨hgood, htot, hlen⟩ := scanF_good _ _ _ _ hs'
  have htx : ∀ t ∈ ts, t.text.length < 2^20 := by
    intro t ht
    have h1 := piece_ge t
    have h2 := total_ge ts t ht
    omega
  refine ⟨⟨by omega, htx⟩, ?_⟩
  have hcore : ∃ ms, scanF ((LexSpec.print ts).length + 1) (LexSpec.print ts) 0 = .ok ms ∧ likeAll ts ms ∧ (LexSpec.print ts).length ≤ 4000 := by
    cases ts with
    | nil => exact ⟨[], rfl, rfl, by decide⟩
    | cons t ts =>
      have ht := hgood t (by simp)
      obtain ⟨c, x, hp, h1, h2⟩ := good_head t ht
      have hj := join_tail t ts
      have hgap : gap (LexSpec.print (t :: ts)) = 0 := by rw [hj, hp]; exact gap_head c _ h1 h2
      have e : total (t :: ts) = (piece t).length + total ts := rfl
      have hpl : (LexSpec.print (t :: ts)).length = (piece t).length + (total ts + ts.length) := by rw [hj, List.length_append, tailP_len]
      have hp1 : 1 ≤ (piece t).length := by rw [hp]; simp
      obtain ⟨ms, hm, hl⟩ := scan_tail ts (fun u hu => hgood u (by simp [hu])) (LexSpec.print (t :: ts)).length (0 + 0 + (piece t).length) (by omega)
      have hs := scanF_step (LexSpec.print (t :: ts)).length (LexSpec.print (t :: ts)) 0 t ht (tailP ts) (tailP_sep ts) (by rw [hgap, hj]; rfl)
      rw [hgap, hm] at hs
      refine ⟨_, hs, ?_, by simp at hlen; omega⟩
      unfold likeAll at hl ⊢
      simp [hl]
  obtain ⟨ms, hm, hlike, hpl⟩ := hcore
  have hml : ts.length = ms.length := by
    have := congrArg List.length hlike
    simpa using this
  refine ⟨ms, ?_, ⟨by omega, ?_⟩, hlike, ?_, hpl⟩
  · unfold scan
    rw [if_neg (by omega)]
    exact hm
  · have h := like_map (fun t => t.text) (fun _ _ => rfl) ts ms hlike
    intro t ht
    have : t.text ∈ ts.map (fun t => t.text) := by rw [h]; exact List.mem_map_of_mem ht
    obtain ⟨u, hu, he⟩ := List.mem_map.1 this
    rw [← he]
    exact htx u hu
  · unfold LexSpec.print
    rw [like_map piece (fun _ _ => rfl) ts ms hlike]
end LexSpec
