/- CodeSpec: a part of the proof of the seat's statements: lemmas about the given translation and plain laws. No condition of its own. -/
import Derived.Lib.ItoaNum
import Derived.Lib.AtoiAllCases
set_option linter.all false
/- The document's encodings and its reader, over lists of bytes: plain functions, and that reading gives back what was written. -/
namespace CodeSpec
open Go.Lib
abbrev Bytes := List UInt8
def InR (n : Int) : Prop := -9223372036854775808 ≤ n ∧ n ≤ 9223372036854775807
def encInt (n : Int) : Bytes := itoa n ++ [59]
def encNum (n : Int) : Bytes := if n < 0 then [] else encInt n
def encText (s : Bytes) : Bytes := itoa s.length ++ 58 :: (s ++ [44])
def encList (l : List Bytes) : Bytes := itoa l.length ++ 91 :: (l.flatten ++ [93])
def encNums (l : List Int) : Bytes := encList (l.map encInt)
def encTexts (l : List Bytes) : Bytes := encList (l.map encText)
/-- the int whose decimal form a string is -/
def canon (l : Bytes) : Option Int := match atoiAll l with
  | .ok v => if itoa v = l then some v else none
  | _ => none
structure Rd where
  rest : Bytes
  bad : Bool
def failed : Rd := ⟨[], true⟩
def rdNumber (r : Rd) (e : UInt8) (least : Int) : Int × Rd :=
  if ((r.rest.take 21).takeWhile (· != e)).length < (r.rest.take 21).length then
    match canon ((r.rest.take 21).takeWhile (· != e)) with
    | some n => if n < least then (0, failed) else (n, ⟨r.rest.drop (((r.rest.take 21).takeWhile (· != e)).length + 1), r.bad⟩)
    | none => (0, failed)
  else (0, failed)
def rdClose (r : Rd) (c : UInt8) : Rd := match r.rest with
  | [] => failed
  | x :: t => if x = c then ⟨t, r.bad⟩ else failed
def rdNum (r : Rd) : Int × Rd := rdNumber r 59 0
def rdInt (r : Rd) : Int × Rd := rdNumber r 59 (-9223372036854775808)
def rdText (r : Rd) : Bytes × Rd :=
  if ((rdNumber r 58 0).2.rest.length : Int) < (rdNumber r 58 0).1 then ([], failed)
  else if (rdClose ⟨(rdNumber r 58 0).2.rest.drop (rdNumber r 58 0).1.toNat, (rdNumber r 58 0).2.bad⟩ 44).bad then ([], rdClose ⟨(rdNumber r 58 0).2.rest.drop (rdNumber r 58 0).1.toNat, (rdNumber r 58 0).2.bad⟩ 44)
  else ((rdNumber r 58 0).2.rest.take (rdNumber r 58 0).1.toNat, rdClose ⟨(rdNumber r 58 0).2.rest.drop (rdNumber r 58 0).1.toNat, (rdNumber r 58 0).2.bad⟩ 44)
def itemsGo {α : Type} (one : Rd → α × Rd) : Nat → Rd → List α × Rd
  | 0, r => ([], r)
  | n + 1, r => if r.bad then ([], r) else ((one r).1 :: (itemsGo one n (one r).2).1, (itemsGo one n (one r).2).2)
def rdItems {α : Type} (one : Rd → α × Rd) (r : Rd) : List α × Rd :=
  if (rdClose (itemsGo one (rdNumber r 91 0).1.toNat (rdNumber r 91 0).2).2 93).bad then ([], rdClose (itemsGo one (rdNumber r 91 0).1.toNat (rdNumber r 91 0).2).2 93)
  else ((itemsGo one (rdNumber r 91 0).1.toNat (rdNumber r 91 0).2).1, rdClose (itemsGo one (rdNumber r 91 0).1.toNat (rdNumber r 91 0).2).2 93)
def rdNums : Rd → List Int × Rd := rdItems rdInt
def rdTexts : Rd → List Bytes × Rd := rdItems rdText

/-! ### numerals -/
theorem digit_toNat (d : Nat) (h : d < 10) : (UInt8.ofNat (48 + d)).toNat = 48 + d := by
  rw [UInt8.toNat_ofNat']; omega
theorem decDigits_digit (u : Nat) : ∀ c ∈ decDigits u, 48 ≤ c.toNat ∧ c.toNat ≤ 57 := by
  induction u using Nat.strongRecOn with
  | ind u ih =>
    rw [decDigits]
    split
    · rename_i h
      intro c hc
      simp only [List.mem_singleton] at hc
      subst hc
      rw [digit_toNat u h]; omega
    · rename_i h
      intro c hc
      rcases List.mem_append.1 hc with hc | hc
      · exact ih (u / 10) (by omega) c hc
      · simp only [List.mem_singleton] at hc
        subst hc
        rw [digit_toNat _ (by omega)]; omega
theorem decDigits_ne (u : Nat) : decDigits u ≠ [] := by
  rw [decDigits]
  split <;> simp
theorem decDigits_len (u : Nat) (k : Nat) (hk : 1 ≤ k) (h : u < 10 ^ k) : (decDigits u).length ≤ k := by
  induction k generalizing u with
  | zero => omega
  | succ k ih =>
    rw [decDigits]
    split
    · simp
    · rename_i h10
      have hk1 : 1 ≤ k := by
        rcases Nat.eq_zero_or_pos k with rfl | h0
        · simp at h; omega
        · exact h0
      have := ih (u / 10) hk1 (by rw [Nat.pow_succ] at h; omega)
      simp only [List.length_append, List.length_singleton]
      omega
theorem parse_append (l m : Bytes) (acc : Nat) : parseUint10 acc (l ++ m) = match parseUint10 acc l with | .ok u => parseUint10 u m | .range => .range | .syntax => .syntax := by
  induction l generalizing acc with
  | nil => rfl
  | cons c l ih =>
    simp only [List.cons_append, parseUint10]
    by_cases h1 : 48 ≤ c.toNat ∧ c.toNat ≤ 57
    · by_cases h2 : 1844674407370955162 ≤ acc
      · simp only [if_pos h1, if_pos h2]
      · by_cases h3 : 18446744073709551616 ≤ acc * 10 + (c.toNat - 48)
        · simp only [if_pos h1, if_neg h2, if_pos h3]
        · simp only [if_pos h1, if_neg h2, if_neg h3]
          exact ih _
    · simp only [if_neg h1]
theorem parse_dec (u : Nat) (h : u < 18446744073709551616) : parseUint10 0 (decDigits u) = .ok u := by
  induction u using Nat.strongRecOn with
  | ind u ih =>
    rw [decDigits]
    split
    · rename_i h10
      simp only [parseUint10, digit_toNat u h10]
      rw [if_pos (by omega), if_neg (by omega), if_neg (by omega)]
      congr 1; omega
    · rename_i h10
      rw [parse_append, ih (u / 10) (by omega) (by omega)]
      simp only [parseUint10, digit_toNat (u % 10) (by omega)]
      rw [if_pos (by omega), if_neg (by omega), if_neg (by omega)]
      congr 1; omega
theorem atoi_itoa (n : Int) (h : InR n) : atoiAll (itoa n) = .ok n := by
  obtain ⟨h1, h2⟩ := h
  unfold itoa
  split
  · rename_i hn
    rw [atoiAll_minus]
    have hp : parseMag (decDigits n.natAbs) = .ok n.natAbs := by
      unfold parseMag
      rw [if_neg (decDigits_ne _), parse_dec _ (by omega)]
    rw [hp]
    simp only [signed]
    rw [if_neg (by omega)]
    congr 1; omega
  · rename_i hn
    obtain ⟨c, r, hc⟩ : ∃ c r, decDigits n.toNat = c :: r := by
      cases hd : decDigits n.toNat with
      | nil => exact absurd hd (decDigits_ne _)
      | cons c r => exact ⟨c, r, rfl⟩
    have hcd := decDigits_digit n.toNat c (by rw [hc]; simp)
    rw [hc, atoiAll_plain c r (by omega) (by omega), ← hc]
    have hp : parseMag (decDigits n.toNat) = .ok n.toNat := by
      unfold parseMag
      rw [if_neg (decDigits_ne _), parse_dec _ (by omega)]
    rw [hp]
    simp only [signless]
    rw [if_neg (by omega)]
    congr 1; omega
theorem canon_itoa (n : Int) (h : InR n) : canon (itoa n) = some n := by
  unfold canon
  rw [atoi_itoa n h]
  simp
theorem canon_some (l : Bytes) (n : Int) (h : canon l = some n) : l = itoa n ∧ InR n := by
  unfold canon at h
  split at h
  · rename_i v hv
    split at h
    · rename_i he
      cases h
      exact ⟨he.symm, atoiAll_bounds hv⟩
    · cases h
  · cases h
theorem canon_iff (l : Bytes) (n : Int) : canon l = some n ↔ l = itoa n ∧ InR n :=
  ⟨canon_some l n, fun ⟨h1, h2⟩ => by rw [h1]; exact canon_itoa n h2⟩
theorem itoa_len (n : Int) (h : InR n) : (itoa n).length ≤ 20 := by
  obtain ⟨h1, h2⟩ := h
  unfold itoa
  split
  · have := decDigits_len n.natAbs 19 (by omega) (by omega)
    simp; omega
  · have := decDigits_len n.toNat 19 (by omega) (by omega)
    omega
theorem itoa_byte (n : Int) : ∀ c ∈ itoa n, c.toNat = 45 ∨ (48 ≤ c.toNat ∧ c.toNat ≤ 57) := by
  intro c hc
  unfold itoa at hc
  split at hc
  · rcases List.mem_cons.1 hc with rfl | hc
    · left; rfl
    · right; exact decDigits_digit _ c hc
  · right; exact decDigits_digit _ c hc
theorem itoa_ne (n : Int) : itoa n ≠ [] := by
  unfold itoa
  split
  · simp
  · exact decDigits_ne _
/-! ### reading what was written -/
theorem takeWhile_num (n : Int) (hn : InR n) (e : UInt8) (he : 58 ≤ e.toNat) (t : Bytes) : ((itoa n ++ e :: t).take 21).takeWhile (· != e) = itoa n ∧ (itoa n).length < ((itoa n ++ e :: t).take 21).length := by
  have hl := itoa_len n hn
  have h1 : (itoa n ++ e :: t).take 21 = itoa n ++ (e :: t).take (21 - (itoa n).length) := by
    rw [List.take_append, List.take_of_length_le (by omega)]
  obtain ⟨k, hk⟩ : ∃ k, 21 - (itoa n).length = k + 1 := ⟨20 - (itoa n).length, by omega⟩
  rw [hk, List.take_succ_cons] at h1
  rw [h1]
  refine ⟨?_, by simp⟩
  rw [List.takeWhile_append_of_pos]
  · simp
  · intro c hc
    have := itoa_byte n c hc
    simp only [bne_iff_ne, ne_eq]
    rintro rfl
    omega
theorem rdNumber_enc (n : Int) (hn : InR n) (e : UInt8) (he : 58 ≤ e.toNat) (least : Int) (hl : least ≤ n) (t : Bytes) (b : Bool) : rdNumber ⟨itoa n ++ e :: t, b⟩ e least = (n, ⟨t, b⟩) := by
  obtain ⟨h1, h2⟩ := takeWhile_num n hn e he t
  unfold rdNumber
  simp only [h1]
  rw [if_pos h2, canon_itoa n hn]
  simp only
  rw [if_neg (by omega)]
  have : (itoa n ++ e :: t).drop ((itoa n).length + 1) = t := by
    rw [← List.drop_drop, List.drop_left]; rfl
  rw [this]
/-- what a number that was read consisted of -/
theorem rdNumber_some (r : Rd) (e : UInt8) (least : Int) : rdNumber r e least = (0, failed) ∨ ∃ n t, rdNumber r e least = (n, ⟨t, r.bad⟩) ∧ r.rest = itoa n ++ e :: t ∧ InR n ∧ least ≤ n := by
  unfold rdNumber
  split
  · rename_i hlt
    split
    · rename_i n hc
      split
      · exact .inl rfl
      · rename_i hle
        obtain ⟨h1, h2⟩ := canon_some _ _ hc
        refine .inr ⟨n, _, rfl, ?_, h2, by omega⟩
        generalize hp : (r.rest.take 21).takeWhile (· != e) = p at *
        have hpre : r.rest.take 21 = p ++ (r.rest.take 21).drop p.length := by
          have := List.takeWhile_append_dropWhile (p := (· != e)) (l := r.rest.take 21)
          rw [hp] at this
          conv => lhs; rw [← this]
          congr 1
          conv => rhs; rw [← this]
          rw [List.drop_left]
        have hdw : (r.rest.take 21).dropWhile (· != e) = (r.rest.take 21).drop p.length := by
          have := List.takeWhile_append_dropWhile (p := (· != e)) (l := r.rest.take 21)
          rw [hp] at this
          conv => rhs; rw [← this]
          rw [List.drop_left]
        have hpl : p.length < r.rest.length := by
          have := List.length_take_le 21 r.rest
          rw [List.length_take] at hlt
          omega
        have hhead : ∃ t', (r.rest.take 21).drop p.length = e :: t' := by
          cases hd : (r.rest.take 21).drop p.length with
          | nil => rw [List.drop_eq_nil_iff] at hd; omega
          | cons x t' =>
            rw [hd] at hdw
            have := List.head_dropWhile_not (· != e) (l := r.rest.take 21) (by rw [hdw]; simp)
            simp only [hdw, List.head_cons] at this
            have hx : x = e := by simpa using this
            exact ⟨t', by rw [hx]⟩
        obtain ⟨t', ht'⟩ := hhead
        have hget : r.rest[p.length]? = some e := by
          have h3 : (r.rest.take 21)[p.length]? = some e := by
            have := congrArg (fun l => l[0]?) ht'
            simpa using this
          rw [List.getElem?_take] at h3
          split at h3
          · exact h3
          · cases h3
        have htk : r.rest.take p.length = p := by
          have h4 := congrArg (List.take p.length) hpre
          rw [List.take_left, List.take_take, Nat.min_eq_left (by rw [List.length_take] at hlt; omega)] at h4
          exact h4
        have hsplit : r.rest = r.rest.take p.length ++ r.rest.drop p.length := (List.take_append_drop _ _).symm
        have hdrop : r.rest.drop p.length = e :: r.rest.drop (p.length + 1) := by
          rw [List.drop_eq_getElem_cons hpl]
          congr 1
          rw [List.getElem?_eq_getElem hpl] at hget
          simpa using hget
        rw [htk, hdrop] at hsplit
        rw [← h1]
        exact hsplit
    · exact .inl rfl
  · exact .inl rfl
theorem failed_rest : failed.rest = [] := rfl
theorem failed_bad : failed.bad = true := rfl
/-- a failed reader has nothing left -/
def Rd.ok (r : Rd) : Prop := r.bad = true → r.rest = []
theorem Rd.ok_failed : failed.ok := fun _ => rfl
theorem Rd.ok_good {t : Bytes} : Rd.ok ⟨t, false⟩ := fun h => by cases h
theorem Rd.eq_failed {r : Rd} (h : r.ok) (hb : r.bad = true) : r = failed := by
  cases r with
  | mk rest bad =>
    have := h hb
    simp only at hb this
    subst hb; subst this; rfl
theorem rdNumber_failed (e : UInt8) (least : Int) : rdNumber failed e least = (0, failed) := by
  rcases rdNumber_some failed e least with h | ⟨n, t, _, h, _⟩
  · exact h
  · simp [failed] at h
theorem rdNumber_ok (r : Rd) (h : r.ok) (e : UInt8) (least : Int) : (rdNumber r e least).2.ok := by
  rcases rdNumber_some r e least with h1 | ⟨n, t, h1, h2, _⟩
  · rw [h1]; exact Rd.ok_failed
  · rw [h1]
    intro hb
    have := h hb
    rw [this] at h2
    simp at h2
theorem rdClose_some (r : Rd) (c : UInt8) : rdClose r c = failed ∨ ∃ t, r.rest = c :: t ∧ rdClose r c = ⟨t, r.bad⟩ := by
  unfold rdClose
  split
  · exact .inl rfl
  · rename_i x t hx
    split
    · rename_i hc
      subst hc
      exact .inr ⟨t, hx, rfl⟩
    · exact .inl rfl
theorem rdClose_cons (c : UInt8) (t : Bytes) (b : Bool) : rdClose ⟨c :: t, b⟩ c = ⟨t, b⟩ := by simp [rdClose]
theorem rdClose_failed (c : UInt8) : rdClose failed c = failed := rfl
theorem rdText_failed : rdText failed = ([], failed) := by
  unfold rdText
  rw [rdNumber_failed]
  simp [failed, rdClose]
theorem rdText_some (r : Rd) (hr : r.ok) : rdText r = ([], failed) ∨ ∃ s t, rdText r = (s, ⟨t, false⟩) ∧ r = ⟨encText s ++ t, false⟩ ∧ (s.length : Int) ≤ 9223372036854775807 := by
  rcases hb : r.bad with _ | _
  · rcases rdNumber_some r 58 0 with h1 | ⟨n, t, h1, h2, h3, h4⟩
    · left
      unfold rdText
      rw [h1]
      simp [failed, rdClose]
    · rw [hb] at h1
      unfold rdText
      rw [h1]
      dsimp only
      split
      · left; rfl
      · rename_i hlt
        rcases rdClose_some ⟨t.drop n.toNat, false⟩ 44 with h5 | ⟨t', h5, h6⟩
        · left; rw [h5]; rfl
        · right
          rw [h6]
          simp only at h5
          refine ⟨t.take n.toNat, t', rfl, ?_, ?_⟩
          · have hl : (t.take n.toNat).length = n.toNat := by rw [List.length_take]; omega
            have hn : ((t.take n.toNat).length : Int) = n := by rw [hl]; omega
            obtain ⟨rest, bad⟩ := r
            simp only at hb h2
            subst hb
            rw [h2]
            unfold encText
            rw [hn]
            congr 1
            conv => lhs; rw [← List.take_append_drop n.toNat t, h5]
            simp
          · have := h3.2
            rw [List.length_take]; omega
  · left
    rw [Rd.eq_failed hr hb]
    exact rdText_failed
theorem rdText_enc (s t : Bytes) (hs : (s.length : Int) ≤ 9223372036854775807) : rdText ⟨encText s ++ t, false⟩ = (s, ⟨t, false⟩) := by
  have h := rdNumber_enc s.length ⟨by omega, hs⟩ 58 (by decide) 0 (by omega) (s ++ 44 :: t) false
  have e : encText s ++ t = itoa s.length ++ 58 :: (s ++ 44 :: t) := by simp [encText]
  unfold rdText
  rw [e, h]
  dsimp only
  rw [if_neg (by simp; omega)]
  have h1 : (s ++ 44 :: t).drop ((s.length : Int)).toNat = 44 :: t := by simp
  have h2 : (s ++ 44 :: t).take ((s.length : Int)).toNat = s := by simp
  rw [h1, h2, rdClose_cons]
  rfl
theorem rdNum_some (r : Rd) (hr : r.ok) : rdNum r = (0, failed) ∨ ∃ n t, rdNum r = (n, ⟨t, false⟩) ∧ r = ⟨encInt n ++ t, false⟩ ∧ InR n ∧ 0 ≤ n := by
  rcases rdNumber_some r 59 0 with h1 | ⟨n, t, h1, h2, h3, h4⟩
  · exact .inl h1
  · rcases hb : r.bad with _ | _
    · right
      rw [hb] at h1
      obtain ⟨rest, bad⟩ := r
      simp only at hb h2
      subst hb
      exact ⟨n, t, h1, by rw [h2]; simp [encInt], h3, h4⟩
    · rw [hr hb] at h2; simp at h2
theorem rdInt_some (r : Rd) (hr : r.ok) : rdInt r = (0, failed) ∨ ∃ n t, rdInt r = (n, ⟨t, false⟩) ∧ r = ⟨encInt n ++ t, false⟩ ∧ InR n := by
  rcases rdNumber_some r 59 (-9223372036854775808) with h1 | ⟨n, t, h1, h2, h3, h4⟩
  · exact .inl h1
  · rcases hb : r.bad with _ | _
    · right
      rw [hb] at h1
      obtain ⟨rest, bad⟩ := r
      simp only at hb h2
      subst hb
      exact ⟨n, t, h1, by rw [h2]; simp [encInt], h3⟩
    · rw [hr hb] at h2; simp at h2
theorem rdInt_enc (n : Int) (hn : InR n) (t : Bytes) : rdInt ⟨encInt n ++ t, false⟩ = (n, ⟨t, false⟩) := by
  have := rdNumber_enc n hn 59 (by decide) (-9223372036854775808) hn.1 t false
  simpa [rdInt, encInt] using this
theorem rdNum_enc (n : Int) (hn : InR n) (h0 : 0 ≤ n) (t : Bytes) : rdNum ⟨encNum n ++ t, false⟩ = (n, ⟨t, false⟩) := by
  have := rdNumber_enc n hn 59 (by decide) 0 h0 t false
  have h1 : ¬ n < 0 := by omega
  simpa [rdNum, encNum, encInt, h1] using this
/-! ### lists -/
theorem itemsGo_some {α : Type} (one : Rd → α × Rd) (enc : α → Bytes) (P : α → Prop) (hone : ∀ r : Rd, r.ok → (one r).2 = failed ∨ ∃ v t, one r = (v, ⟨t, false⟩) ∧ r = ⟨enc v ++ t, false⟩ ∧ P v) : ∀ (n : Nat) (r : Rd), r.ok →
    (itemsGo one n r).2 = failed ∨ ∃ vs t, itemsGo one n r = (vs, ⟨t, r.bad⟩) ∧ vs.length = n ∧ r.rest = (vs.map enc).flatten ++ t ∧ ∀ v ∈ vs, P v
  | 0, r, _ => .inr ⟨[], r.rest, rfl, rfl, by simp, by simp⟩
  | n + 1, r, hr => by
    unfold itemsGo
    split
    · rename_i hb
      left
      exact Rd.eq_failed hr hb
    · rename_i hb
      have hb : r.bad = false := by simpa using hb
      rcases hone r hr with h1 | ⟨v, t, h1, h2, h3⟩
      · left
        rw [h1]
        have : ∀ n, (itemsGo one n failed).2 = failed := by
          intro n
          cases n with
          | zero => rfl
          | succ n => rfl
        exact this n
      · rw [h1]
        have hok : Rd.ok ⟨t, false⟩ := Rd.ok_good
        rcases itemsGo_some one enc P hone n _ hok with h4 | ⟨vs, t', h4, h5, h6, h7⟩
        · left; exact h4
        · right
          rw [h4]
          refine ⟨v :: vs, t', by rw [hb], by simp [h5], ?_, ?_⟩
          · rw [h2]
            simp only at h6
            simp [h6]
          · intro x hx
            rcases List.mem_cons.1 hx with rfl | hx
            · exact h3
            · exact h7 x hx
theorem rdItems_some {α : Type} (one : Rd → α × Rd) (enc : α → Bytes) (P : α → Prop) (hone : ∀ r : Rd, r.ok → (one r).2 = failed ∨ ∃ v t, one r = (v, ⟨t, false⟩) ∧ r = ⟨enc v ++ t, false⟩ ∧ P v) (r : Rd) (hr : r.ok) :
    rdItems one r = ([], failed) ∨ ∃ vs t, rdItems one r = (vs, ⟨t, false⟩) ∧ r = ⟨encList (vs.map enc) ++ t, false⟩ ∧ (vs.length : Int) ≤ 9223372036854775807 ∧ ∀ v ∈ vs, P v := by
  have hf : ∀ {q : Rd}, q = failed → (if (rdClose q 93).bad = true then (([] : List α), rdClose q 93) else ((itemsGo one (rdNumber r 91 0).1.toNat (rdNumber r 91 0).2).1, rdClose q 93)) = ([], failed) := by
    rintro q rfl
    rw [rdClose_failed]; rfl
  rcases rdNumber_some r 91 0 with h1 | ⟨n, t, h1, h2, h3, h4⟩
  · left
    unfold rdItems
    exact hf (by rw [h1]; rfl)
  · rcases hb : r.bad with _ | _
    · rw [hb] at h1
      rcases itemsGo_some one enc P hone n.toNat ⟨t, false⟩ Rd.ok_good with h5 | ⟨vs, t', h5, h6, h7, h8⟩
      · left
        unfold rdItems
        exact hf (by rw [h1]; exact h5)
      · unfold rdItems
        rw [h1]
        dsimp only
        rw [h5]
        dsimp only
        rcases rdClose_some ⟨t', false⟩ 93 with h9 | ⟨t'', h9, h10⟩
        · left; rw [h9]; rfl
        · right
          rw [h10]
          refine ⟨vs, t'', rfl, ?_, by have := h3.2; omega, h8⟩
          have hn : (vs.length : Int) = n := by omega
          obtain ⟨rest, bad⟩ := r
          simp only at hb h2 h7 h9
          subst hb
          rw [h2, h7, h9]
          simp [encList, hn]
    · rw [hr hb] at h2; simp at h2
theorem itemsGo_enc {α : Type} (one : Rd → α × Rd) (enc : α → Bytes) (vs : List α) (t : Bytes) (h : ∀ v ∈ vs, ∀ t, one ⟨enc v ++ t, false⟩ = (v, ⟨t, false⟩)) : itemsGo one vs.length ⟨(vs.map enc).flatten ++ t, false⟩ = (vs, ⟨t, false⟩) := by
  induction vs with
  | nil => rfl
  | cons v vs ih =>
    have h1 := h v (by simp) ((vs.map enc).flatten ++ t)
    have h2 := ih (fun x hx => h x (by simp [hx]))
    have e : ((v :: vs).map enc).flatten ++ t = enc v ++ ((vs.map enc).flatten ++ t) := by simp
    rw [e, List.length_cons]
    unfold itemsGo
    rw [if_neg (by simp), h1]
    dsimp only
    rw [h2]
theorem rdItems_enc {α : Type} (one : Rd → α × Rd) (enc : α → Bytes) (vs : List α) (t : Bytes) (hl : (vs.length : Int) ≤ 9223372036854775807) (h : ∀ v ∈ vs, ∀ t, one ⟨enc v ++ t, false⟩ = (v, ⟨t, false⟩)) : rdItems one ⟨encList (vs.map enc) ++ t, false⟩ = (vs, ⟨t, false⟩) := by
  have h1 := rdNumber_enc vs.length ⟨by omega, hl⟩ 91 (by decide) 0 (by omega) ((vs.map enc).flatten ++ 93 :: t) false
  have e : encList (vs.map enc) ++ t = itoa vs.length ++ 91 :: ((vs.map enc).flatten ++ 93 :: t) := by simp [encList]
  have h2 := itemsGo_enc one enc vs (93 :: t) h
  have h3 : ((vs.length : Int)).toNat = vs.length := by simp
  unfold rdItems
  rw [e, h1]
  dsimp only
  rw [h3, h2]
  dsimp only
  rw [rdClose_cons]
  rfl
theorem rdNums_enc (vs : List Int) (t : Bytes) (hl : (vs.length : Int) ≤ 9223372036854775807) (h : ∀ v ∈ vs, InR v) : rdNums ⟨encNums vs ++ t, false⟩ = (vs, ⟨t, false⟩) :=
  rdItems_enc rdInt encInt vs t hl (fun v hv t => rdInt_enc v (h v hv) t)
theorem rdTexts_enc (vs : List Bytes) (t : Bytes) (hl : (vs.length : Int) ≤ 9223372036854775807) (h : ∀ v ∈ vs, (v.length : Int) ≤ 9223372036854775807) : rdTexts ⟨encTexts vs ++ t, false⟩ = (vs, ⟨t, false⟩) :=
  rdItems_enc rdText encText vs t hl (fun v hv t => rdText_enc v t (h v hv))
theorem rdNums_some (r : Rd) (hr : r.ok) : rdNums r = ([], failed) ∨ ∃ vs t, rdNums r = (vs, ⟨t, false⟩) ∧ r = ⟨encNums vs ++ t, false⟩ ∧ (vs.length : Int) ≤ 9223372036854775807 ∧ ∀ v ∈ vs, InR v :=
  rdItems_some rdInt encInt InR (fun r hr => by
    rcases rdInt_some r hr with h | ⟨n, t, h1, h2, h3⟩
    · left; rw [h]
    · right; exact ⟨n, t, h1, h2, h3⟩) r hr
theorem rdTexts_some (r : Rd) (hr : r.ok) : rdTexts r = ([], failed) ∨ ∃ vs t, rdTexts r = (vs, ⟨t, false⟩) ∧ r = ⟨encTexts vs ++ t, false⟩ ∧ (vs.length : Int) ≤ 9223372036854775807 ∧ ∀ v ∈ vs, (v.length : Int) ≤ 9223372036854775807 :=
  rdItems_some rdText encText _ (fun r hr => by
    rcases rdText_some r hr with h | ⟨n, t, h1, h2, h3⟩
    · left; rw [h]
    · right; exact ⟨n, t, h1, h2, h3⟩) r hr
end CodeSpec
