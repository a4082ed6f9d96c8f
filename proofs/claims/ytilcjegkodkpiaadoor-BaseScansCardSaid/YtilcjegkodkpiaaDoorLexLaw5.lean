/- LexLaw5: a part of the proof of the seat's statements: lemmas about the given translation and plain laws. No condition of its own. -/
import Derived.Test.YtilcjegkodkpiaaDoorLexLaw4
set_option linter.all false
namespace LexSpec
open Go.Proofs
set_option linter.unusedSimpArgs false
theorem gapL_take (l : Bytes) : ∀ (b : Bool) (m : Nat), gapL (l.take m) b = min (gapL l b) m := by
  induction l with
  | nil => intro b m; simp [gapL]
  | cons c l ih =>
    intro b m
    cases m with
    | zero => simp [gapL]
    | succ m =>
      have h1 := ih true m
      have h2 := ih false m
      cases b <;> simp only [List.take_succ_cons, gapL, h1, h2] <;> repeat' split
      all_goals omega
theorem gapL_drop (l : Bytes) : ∀ (b : Bool), gapL (l.drop (gapL l b)) false = 0 := by
  induction l with
  | nil => intro b; simp [gapL]
  | cons c l ih =>
    intro b
    have h1 := ih true
    have h2 := ih false
    cases b with
    | true =>
      rw [gapL]
      split
      · rw [List.drop_succ_cons]; exact h2
      · rw [List.drop_succ_cons]; exact h1
    | false =>
      rw [gapL]
      split
      · rw [List.drop_succ_cons]; exact h2
      · split
        · rw [List.drop_succ_cons]; exact h1
        · rename_i h3 h4
          rw [List.drop_zero, gapL, if_neg h3, if_neg h4]
theorem takeWhile_take' (p : UInt8 → Bool) (l : Bytes) : ∀ m, (l.take m).takeWhile p = (l.takeWhile p).take m := by
  induction l with
  | nil => intro m; simp
  | cons c l ih =>
    intro m
    cases m with
    | zero => simp
    | succ m =>
      rw [List.take_succ_cons, List.takeWhile_cons, List.takeWhile_cons, ih]
      split <;> simp
theorem quotedGo_take (l : Bytes) : ∀ v n, quotedGo l = some (v, n) → ∀ m, n ≤ m → quotedGo (l.take m) = some (v, n) := by
  induction l using quotedGo.induct with
  | case1 => intro v n h; simp [quotedGo] at h
  | case2 c r' hp h1 =>
    intro v n h m hm
    rw [quotedGo_cons] at h
    simp only [hp, if_true, h1, Option.some.injEq, Prod.mk.injEq] at h
    obtain ⟨rfl, rfl⟩ := h
    obtain ⟨m, rfl⟩ : ∃ k, m = k + 1 := ⟨m - 1, by omega⟩
    rw [List.take_succ_cons, quotedGo_cons]
    simp only [hp, if_true, h1]
  | case4 c hp h1 h2 d r' hd ih =>
    intro v n h m hm
    rw [quotedGo_cons] at h
    simp only [hp, if_true, h1, h2, hd, Bool.false_eq_true, if_false, Option.map_eq_some_iff] at h
    obtain ⟨⟨v', n'⟩, hq, he⟩ := h
    cases he
    obtain ⟨m, rfl⟩ : ∃ k, m = k + 2 := ⟨m - 2, by omega⟩
    rw [List.take_succ_cons, List.take_succ_cons, quotedGo_cons]
    simp only [hp, if_true, h1, h2, hd, Bool.false_eq_true, if_false, ih _ _ hq m (by omega)]
    rfl
  | case6 c tail hp h1 h2 ih =>
    intro v n h m hm
    rw [quotedGo_cons] at h
    simp only [hp, if_true, h1, h2, Bool.false_eq_true, if_false, Option.map_eq_some_iff] at h
    obtain ⟨⟨v', n'⟩, hq, he⟩ := h
    cases he
    obtain ⟨m, rfl⟩ : ∃ k, m = k + 1 := ⟨m - 1, by omega⟩
    rw [List.take_succ_cons, quotedGo_cons]
    simp only [hp, if_true, h1, h2, Bool.false_eq_true, if_false, ih _ _ hq m (by omega)]
    rfl
  | _ =>
    intro v n h
    rw [quotedGo_cons] at h
    simp_all
theorem find_sub {α : Type} (p q : α → Bool) (L : List α) (t : α) (h : ∀ s ∈ L, q s = true → p s = true) (hf : L.find? p = some t) (hq : q t = true) : L.find? q = some t := by
  induction L with
  | nil => simp at hf
  | cons s L ih =>
    rw [List.find?_cons] at hf ⊢
    cases hps : p s with
    | true =>
      rw [hps] at hf
      simp only [Option.some.injEq] at hf
      subst hf
      rw [hq]
    | false =>
      rw [hps] at hf
      cases hqs : q s with
      | true => exact absurd (h s (by simp) hqs) (by rw [hps]; simp)
      | false => exact ih (fun u hu => h u (by simp [hu])) hf
theorem prefix_take (t l : Bytes) (m : Nat) (h : t.isPrefixOf (l.take m) = true) : t.isPrefixOf l = true := by
  rw [List.isPrefixOf_iff_prefix] at h ⊢
  exact h.trans (List.take_prefix _ _)
theorem take_prefix' (t l : Bytes) (m : Nat) (h : t.isPrefixOf l = true) (hm : t.length ≤ m) : t.isPrefixOf (l.take m) = true := by
  rw [List.isPrefixOf_iff_prefix] at h ⊢
  rw [List.prefix_take_iff]
  exact ⟨h, hm⟩
theorem next_take (l : Bytes) (t : Tok) (n m : Nat) (h : next l = .ok (t, n)) (hm : n ≤ m) : next (l.take m) = .ok (t, n) := by
  have hle := next_le _ _ _ h
  cases l with
  | nil => simp [next] at h
  | cons c r =>
    obtain ⟨m, rfl⟩ : ∃ k, m = k + 1 := ⟨m - 1, by omega⟩
    rw [next_cons (c :: r) c r rfl] at h
    have htw : ∀ p : UInt8 → Bool, ((c :: r).takeWhile p).length ≤ m + 1 → ((c :: r).take (m + 1)).takeWhile p = (c :: r).takeWhile p := by
      intro p hp
      rw [takeWhile_take', List.take_of_length_le hp]
    rw [next_cons ((c :: r).take (m + 1)) c (r.take m) (List.take_succ_cons)]
    split at h
    · rename_i hc
      rw [if_pos hc]
      split at h
      · rename_i h2
        cases h
        rw [htw _ hm, if_pos h2]
      · cases h
    · rename_i hc
      rw [if_neg hc]
      split at h
      · rename_i hc2
        rw [if_pos hc2]
        split at h
        · rename_i h2
          cases h
          rw [htw _ hm, if_pos h2]
        · cases h
      · rename_i hc2
        rw [if_neg hc2]
        split at h
        · rename_i hc3
          rw [if_pos hc3]
          split at h
          · rename_i v n' hq
            cases h
            have : LexSpec.quoted ((c :: r).take (m + 1)) = some (v, n) := by
              unfold LexSpec.quoted at hq ⊢
              simp only [List.take_succ_cons, List.drop_succ_cons, List.drop_zero] at hq ⊢
              split at hq
              · rename_i v2 n2 hq2
                split at hq
                · rename_i h4
                  cases hq
                  rw [quotedGo_take _ _ _ hq2 m (by omega)]
                  simp only [h4, if_true]
                · cases hq
              · cases hq
            rw [this]
          · cases h
        · rename_i hc3
          rw [if_neg hc3]
          split at h
          · rename_i t' hf
            cases h
            have hp0 := List.find?_some hf
            have : signs.find? (fun t => t.isPrefixOf ((c :: r).take (m + 1))) = some t' :=
              find_sub _ _ _ _ (fun s _ hs => prefix_take s _ _ hs) hf (take_prefix' _ _ _ hp0 hm)
            rw [this]
          · cases h
theorem next_err' (l : List UInt8) : ∀ e, next l = .error e → e = 2 ∨ e = 3 ∨ e = 10 := by
  intro e h
  cases l with
  | nil => simp [next] at h; omega
  | cons c r =>
    rw [next_cons (c :: r) c r rfl] at h
    repeat' split at h
    all_goals first | (cases h; done) | (cases h; simp; done)
theorem scanF_err_split (f : Nat) : ∀ (l : Bytes) (a p e : Nat), l.length < f → scanF f l a = .error (p, e) →
    ∃ k, p = a + k ∧ k < l.length ∧ (e = 2 ∨ e = 3 ∨ e = 10) ∧ (∀ g b, l.length < g → ∃ ts, scanF g (l.take k) b = .ok ts) ∧ (∀ g b, l.length < g → scanF g (l.drop k) b = .error (b, e)) := by
  induction f with
  | zero => intro l a p e h; omega
  | succ f ih =>
    intro l a p e hf h
    rw [scanF] at h
    cases hd : l.drop (gap l) with
    | nil => rw [hd] at h; cases h
    | cons c r =>
      have hlen : (c :: r).length = l.length - gap l := by rw [← hd, List.length_drop]
      have hle := gapL_le l false
      have hgd : gap (c :: r) = 0 := by rw [← hd]; exact gapL_drop l false
      rw [hd] at h
      cases hn : next (c :: r) with
      | error e' =>
        simp only [hn] at h
        cases h
        refine ⟨gap l, rfl, by simp at hlen; omega, next_err' _ _ hn, ?_, ?_⟩
        · intro g b hg
          obtain ⟨g, rfl⟩ : ∃ k, g = k + 1 := ⟨g - 1, by omega⟩
          refine ⟨[], ?_⟩
          rw [scanF]
          have : (l.take (gap l)).drop (gap (l.take (gap l))) = [] := by
            have hgt : gap (l.take (gap l)) = gap l := by
              unfold gap
              rw [gapL_take]; omega
            rw [List.drop_eq_nil_iff, List.length_take, hgt]; omega
          rw [this]
        · intro g b hg
          obtain ⟨g, rfl⟩ : ∃ k, g = k + 1 := ⟨g - 1, by omega⟩
          rw [hd, scanF, hgd, List.drop_zero]
          simp only [hn, Nat.add_zero]
      | ok x =>
        obtain ⟨t, n⟩ := x
        obtain ⟨n1, n2, _⟩ := next_le _ _ _ hn
        simp only [hn] at h
        have hdl : ((c :: r).drop n).length = (c :: r).length - n := List.length_drop
        split at h
        · rename_i x hx
          cases h
          obtain ⟨k, rfl, hk, he, h1, h2⟩ := ih _ _ _ _ (by omega) hx
          refine ⟨gap l + n + k, by omega, by omega, he, ?_, ?_⟩
          · intro g b hg
            obtain ⟨g, rfl⟩ : ∃ k, g = k + 1 := ⟨g - 1, by omega⟩
            have hgt : gap (l.take (gap l + n + k)) = gap l := by
              unfold gap
              rw [gapL_take]; omega
            have hdt : (l.take (gap l + n + k)).drop (gap l) = (c :: r).take (n + k) := by
              rw [List.drop_take, hd]; congr 1; omega
            have hnt := next_take (c :: r) t n (n + k) hn (by omega)
            have hdt2 : ((c :: r).take (n + k)).drop n = ((c :: r).drop n).take k := by
              rw [List.drop_take]; congr 1; omega
            obtain ⟨ts, hts⟩ := h1 g (b + gap l + n) (by omega)
            rw [scanF, hgt, hdt]
            obtain ⟨m, hm⟩ : ∃ m, n + k = m + 1 := ⟨n + k - 1, by omega⟩
            rw [hm, List.take_succ_cons] at hnt hdt2 ⊢
            simp only [hnt, hdt2, hts]
            exact ⟨_, rfl⟩
          · intro g b hg
            have : l.drop (gap l + n + k) = ((c :: r).drop n).drop k := by
              rw [← hd, List.drop_drop, List.drop_drop, Nat.add_assoc]
            rw [this]
            exact h2 g b (by omega)
        · cases h
/-- an error: the part before it, and the rest from it on -/
theorem scan_split (l : Bytes) (hl : l.length ≤ 4000) (p e : Nat) (h : scan l = .error (p, e)) :
    p < l.length ∧ (e = 2 ∨ e = 3 ∨ e = 10) ∧ (∃ ts, scan (l.take p) = .ok ts) ∧ scan (l.drop p) = .error (0, e) := by
  unfold scan at h
  rw [if_neg (by omega)] at h
  obtain ⟨k, rfl, hk, he, h1, h2⟩ := scanF_err_split _ _ _ _ _ (by omega) h
  rw [Nat.zero_add]
  refine ⟨hk, he, ?_, ?_⟩
  · unfold scan
    rw [if_neg (by rw [List.length_take]; omega)]
    obtain ⟨ts, hts⟩ := h1 (l.length + 1) 0 (by omega)
    refine ⟨ts, ?_⟩
    rw [← hts]
    exact scanF_fuel _ _ _ _ (by omega) (by rw [List.length_take]; omega)
  · unfold scan
    rw [if_neg (by rw [List.length_drop]; omega)]
    rw [← h2 (l.length + 1) 0 (by omega)]
    exact scanF_fuel _ _ _ _ (by omega) (by rw [List.length_drop]; omega)
theorem gapL_blanks (n : Nat) : gapL (List.replicate n 32) false = n := by
  induction n with
  | zero => rfl
  | succ n ih =>
    rw [List.replicate_succ, gapL, if_pos (by decide), ih]
theorem scan_blanks (n : Nat) (h : n ≤ 4000) : scan (List.replicate n 32) = .ok [] := by
  unfold scan
  rw [if_neg (by simp; omega), scanF]
  have : (List.replicate n (32 : UInt8)).drop (gap (List.replicate n 32)) = [] := by
    rw [List.drop_eq_nil_iff, gap, gapL_blanks]; simp
  rw [this]
/-- a text that is one token -/
theorem scan_one (t : Tok) (h : good t) (hl : (piece t).length ≤ 4000) : scan (piece t) = .ok [{ t with pos := 0 }] := by
  obtain ⟨c, x, hp, h1, h2⟩ := good_head t h
  have hg : gap (piece t) = 0 := by rw [hp]; exact gap_head c x h1 h2
  have hs := scanF_step (piece t).length (piece t) 0 t h [] (.inl rfl) (by rw [hg]; simp)
  have h3 : 1 ≤ (piece t).length := by rw [hp]; simp
  obtain ⟨f, hf⟩ : ∃ f, (piece t).length = f + 1 := ⟨(piece t).length - 1, by omega⟩
  unfold scan
  rw [if_neg (by omega), hs, hg, hf]
  simp [scanF, gap, gapL]
theorem scan_quote (v : Bytes) (h : quoteOk v = true) : scan (LexSpec.escaped v) = .ok [⟨2, v, 0, 0⟩] := by
  simp only [quoteOk, Bool.and_eq_true, decide_eq_true_eq] at h
  have hg : good ⟨2, v, 0, 0⟩ := .inr (.inr (.inl ⟨rfl, rfl, h.1, spanN_all _ _ h.2⟩))
  have hl : (piece ⟨2, v, 0, 0⟩).length ≤ 4000 := by
    have := escL_le v
    have h400 := h.1
    show (LexSpec.escaped v).length ≤ 4000
    simp [LexSpec.escaped]
    omega
  exact scan_one _ hg hl
theorem scan_name (v : Bytes) (h : nameOk v = true) : scan v = .ok [⟨0, v, 0, 0⟩] ∧ v.length ≤ 20 := by
  have hl : v.length ≤ 20 := by
    cases v with
    | nil => simp
    | cons c r =>
      simp only [nameOk, Bool.and_eq_true, decide_eq_true_eq] at h
      exact h.1.2
  exact ⟨scan_one ⟨0, v, 0, 0⟩ (.inl ⟨rfl, h, rfl⟩) (by show v.length ≤ 4000; omega), hl⟩
theorem scan_number (v : Bytes) (h : numberOk v = true) : scan v = .ok [⟨1, v, numVal v, 0⟩] ∧ numVal v ≤ 1099511627776 := by
  have hl : v.length ≤ 13 ∧ numVal v ≤ 1099511627776 := by
    cases v with
    | nil => simp [numVal]
    | cons c r =>
      simp only [numberOk, decide_eq_true_eq] at h
      exact h.2.2
  exact ⟨scan_one ⟨1, v, numVal v, 0⟩ (.inr (.inl ⟨rfl, h, rfl⟩)) (by show v.length ≤ 4000; omega), hl.2⟩
theorem scan_goods (l : Bytes) (ts : List Tok) (h : scan l = .ok ts) : (∀ t ∈ ts, good t) ∧ total ts ≤ l.length ∧ ts.length ≤ l.length := by
  unfold scan at h
  split at h
  · cases h
  · exact scanF_good _ _ _ _ h
theorem name_iff (v : Bytes) (t : Tok) (h : scan v = .ok [t]) : nameOk v = decide (t.text = v ∧ t.pos = 0 ∧ t.kind = 0) := by
  have hg := (scan_goods _ _ h).1 t (by simp)
  rw [Bool.eq_iff_iff, decide_eq_true_eq]
  constructor
  · intro hn
    have := (scan_name v hn).1
    rw [h] at this
    cases this
    exact ⟨rfl, rfl, rfl⟩
  · rintro ⟨h1, h2, h3⟩
    rcases hg with ⟨_, h5, _⟩ | ⟨h4, _⟩ | ⟨h4, _⟩ | ⟨h4, _⟩
    · rw [← h1]; exact h5
    all_goals omega
theorem number_iff (v : Bytes) (t : Tok) (h : scan v = .ok [t]) : numberOk v = decide (t.text = v ∧ t.pos = 0 ∧ t.kind = 1) := by
  have hg := (scan_goods _ _ h).1 t (by simp)
  rw [Bool.eq_iff_iff, decide_eq_true_eq]
  constructor
  · intro hn
    have := (scan_number v hn).1
    rw [h] at this
    cases this
    exact ⟨rfl, rfl, rfl⟩
  · rintro ⟨h1, h2, h3⟩
    rcases hg with ⟨h4, _⟩ | ⟨_, h5, _⟩ | ⟨h4, _⟩ | ⟨h4, _⟩
    · omega
    · rw [← h1]; exact h5
    all_goals omega
end LexSpec
