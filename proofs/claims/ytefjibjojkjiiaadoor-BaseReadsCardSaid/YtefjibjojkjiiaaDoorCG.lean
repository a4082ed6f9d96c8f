/- CG: a part of the proof of the seat's statements: lemmas about the given translation and plain laws. No condition of its own. -/
import Derived.Test.YtefjibjojkjiiaaDoorCF
set_option linter.all false
namespace Go.Proofs
open Go Go.Sh Go.RowKit Go.Lib CodeSpec
set_option linter.unusedSimpArgs false
set_option maxRecDepth 10000
def IsQd (w : World) (b : Nat) (r : Rd) : Prop := w.heap[b]? = some (.cells #[.string ⟨r.rest.toArray⟩, .bool r.bad] 84 (0, 0))
theorem IsQd.c0 {w : World} {b : Nat} {r : Rd} (h : IsQd w b r) : w.cell? ⟨b, 0, none⟩ = some (.string ⟨r.rest.toArray⟩) := by
  unfold IsQd at h; simp [World.cell?, h]
theorem IsQd.c1 {w : World} {b : Nat} {r : Rd} (h : IsQd w b r) : w.cell? ⟨b, 1, none⟩ = some (.bool r.bad) := by
  unfold IsQd at h; simp [World.cell?, h]
theorem IsQd.fz {w : World} {b : Nat} {r : Rd} (h : IsQd w b r) (i : Nat) : w.frozen? ⟨b, i, none⟩ = false := by
  unfold IsQd at h; simp [World.frozen?, h]
theorem IsQd.lt {w : World} {b : Nat} {r : Rd} (h : IsQd w b r) : b < w.heap.size := (Array.getElem?_eq_some_iff.1 h).1
theorem IsQd.set0 {w : World} {b : Nat} {r : Rd} (h : IsQd w b r) (l : List UInt8) : IsQd (w.setCell ⟨b, 0, none⟩ (.string ⟨l.toArray⟩)) b ⟨l, r.bad⟩ := by
  unfold IsQd at h ⊢
  rw [heap_set h]; rfl
theorem IsQd.set1 {w : World} {b : Nat} {r : Rd} (h : IsQd w b r) (t : Bool) : IsQd (w.setCell ⟨b, 1, none⟩ (.bool t)) b ⟨r.rest, t⟩ := by
  unfold IsQd at h ⊢
  rw [heap_set h]; rfl
theorem IsQd.below {w w' : World} {b : Nat} {r : Rd} (h : IsQd w b r) {B : Nat} (hb : Below B w w') (hB : b < B) : IsQd w' b r := by
  unfold IsQd at h ⊢
  rw [hb.block _ hB]; exact h

theorem wrap_range (x : Int) : InR (IntKind.i64.wrap x) := by
  unfold IntKind.wrap InR
  simp only [IntKind.bits, IntKind.signed]
  simp
  omega
/-! a string as a number -/
def numL (l : List UInt8) : Nat := l.foldl (fun a c => 10 * a + (c.toNat - 48)) 0
theorem numL_snoc (l : List UInt8) (c : UInt8) : numL (l ++ [c]) = 10 * numL l + (c.toNat - 48) := by simp [numL]
theorem numL_dec (u : Nat) : numL (decDigits u) = u := by
  induction u using Nat.strongRecOn with
  | ind u ih =>
    rw [decDigits]
    split
    · rename_i h
      have := digit_toNat u h
      simp only [numL, List.foldl_cons, List.foldl_nil, this]
      omega
    · rename_i h
      rw [numL_snoc, ih (u / 10) (by omega), digit_toNat _ (by omega)]
      omega
theorem numL_mono (l : List UInt8) (k : Nat) : numL (l.take k) ≤ numL l := by
  have key : ∀ (m : List UInt8) (a : Nat), a ≤ m.foldl (fun a c => 10 * a + (c.toNat - 48)) a := by
    intro m
    induction m with
    | nil => intro a; simp
    | cons c m ih =>
      intro a
      simp only [List.foldl_cons]
      have := ih (10 * a + (c.toNat - 48))
      omega
  conv => rhs; rw [← List.take_append_drop k l]
  unfold numL
  rw [List.foldl_append]
  exact key _ _
theorem itoa_parts (m : Int) : itoa m = (if m < 0 then [45] else []) ++ decDigits m.natAbs := by
  by_cases h : m < 0
  · rw [itoa_neg m h, if_pos h]; rfl
  · rw [itoa_pos m h, if_neg h]; rfl
theorem itoa_head (m : Int) : (itoa m).head? = some 45 ↔ m < 0 := by
  by_cases h : m < 0
  · simp [itoa_neg m h, h]
  · simp only [h, iff_false]
    rw [itoa_pos m h]
    intro e
    have : (45 : UInt8) ∈ decDigits m.natAbs := by
      cases hd : decDigits m.natAbs with
      | nil => rw [hd] at e; cases e
      | cons c r => rw [hd] at e; simp at e; rw [e]; simp
    have := decDigits_digit _ _ this
    simp at this
/-- where the digits begin -/
def sgn (s : List UInt8) : Nat := if s.head? = some 45 then 1 else 0
theorem itoa_drop (m : Int) : (itoa m).drop (sgn (itoa m)) = decDigits m.natAbs := by
  unfold sgn
  by_cases h : m < 0
  · rw [if_pos ((itoa_head m).2 h), itoa_neg m h]; rfl
  · rw [if_neg (fun e => h ((itoa_head m).1 e)), itoa_pos m h]; rfl
theorem canon_none (s : List UInt8) (h : ∀ m, InR m → s ≠ itoa m) : canon s = none := by
  cases hc : canon s with
  | none => rfl
  | some m => exact absurd (canon_some s m hc).1 (h m (canon_some s m hc).2)
set_option maxHeartbeats 1600000 in
theorem backInt_ok (s : List UInt8) (hs : s.length < 2^40) {K : Value → World → Prop} {w : World} (k : ∀ v w', Below w.heap.size w w' → (∀ n, canon s = some n → v = n) → K (.tuple #[.int .i64 v, .bool (canon s).isSome]) w') : callM Tryd.prog 95 #[.string ⟨s.toArray⟩] K w := by
  apply sh_95_ok
  unfold sh_95
  have hsg : sgn s ≤ 1 := by unfold sgn; split <;> omega
  refine ⟨fun l w' => w = w' ∧ l = [.int .i64 (sgn s)], ?_, ?_⟩
  · cases s with
    | nil =>
      repeat (any_goals (first
      | (with_reducible refine pureM_in ?_)
      | (with_reducible refine gdtT ?_) | (with_reducible refine gdtF ?_) | (with_reducible refine gdfF ?_) | (with_reducible refine gdfT ?_) | (with_reducible refine gdu ?_ _)
      | (with_reducible refine gdt_pos (by first | assumption | omega) ?_) | (with_reducible refine gdt_neg (by first | assumption | omega) ?_) | (with_reducible refine gdt_split (fun hg => ?_) (fun hg => ?_))
      | (with_reducible refine gdf_pos (by first | assumption | omega) ?_) | (with_reducible refine gdf_neg (by first | assumption | omega) ?_) | (with_reducible refine gdf_split (fun hg => ?_) (fun hg => ?_))
      | (with_reducible refine gdtn_pos (by first | assumption | omega) ?_) | (with_reducible refine gdtn_neg (by first | assumption | omega) ?_) | (with_reducible refine gdtn_split (fun hg => ?_) (fun hg => ?_))
      | (with_reducible refine gdfn_pos (by first | assumption | omega) ?_) | (with_reducible refine gdfn_neg (by first | assumption | omega) ?_) | (with_reducible refine gdfn_split (fun hg => ?_) (fun hg => ?_))
      | (with_reducible refine gdtbn_pos (by assumption) ?_) | (with_reducible refine gdtbn_neg (by assumption) ?_) | (with_reducible refine gdfbn_pos (by assumption) ?_) | (with_reducible refine gdfbn_neg (by assumption) ?_)
      | (with_reducible refine gdtb_pos (by assumption) ?_) | (with_reducible refine gdtb_neg (by assumption) ?_) | (with_reducible refine gdtb_split (fun hg => ?_) (fun hg => ?_))
      | (with_reducible refine gdfb_pos (by assumption) ?_) | (with_reducible refine gdfb_neg (by assumption) ?_) | (with_reducible refine gdfb_split (fun hg => ?_) (fun hg => ?_))
      | (with_reducible refine pickT ?_) | (with_reducible refine pickF ?_)
      | (with_reducible refine pick_pos (by first | assumption | omega) ?_) | (with_reducible refine pick_neg (by first | assumption | omega) ?_)
      | (with_reducible refine pickn_pos (by first | assumption | omega) ?_) | (with_reducible refine pickn_neg (by first | assumption | omega) ?_)
      | (with_reducible refine pickbn_pos (by assumption) ?_) | (with_reducible refine pickbn_neg (by assumption) ?_)
      | (with_reducible refine pickb_pos (by assumption) ?_) | (with_reducible refine pickb_neg (by assumption) ?_)
      | (with_reducible refine condT ?_) | (with_reducible refine condF ?_)
      | (with_reducible refine cond_pos (by first | assumption | omega) ?_) | (with_reducible refine cond_neg (by first | assumption | omega) ?_) | (with_reducible refine condM_dec (fun hg => ?_) (fun hg => ?_))
      | (with_reducible refine condn_pos (by first | assumption | omega) ?_) | (with_reducible refine condn_neg (by first | assumption | omega) ?_) | (with_reducible refine condM_ndec (fun hg => ?_) (fun hg => ?_))
      | (with_reducible refine condbn_pos (by assumption) ?_) | (with_reducible refine condbn_neg (by assumption) ?_) | (with_reducible refine condbn_split (fun hg => ?_) (fun hg => ?_))
      | (with_reducible refine condb_pos (by assumption) ?_) | (with_reducible refine condb_neg (by assumption) ?_) | (with_reducible refine condM_b (fun hg => ?_) (fun hg => ?_))
      | ((with_reducible refine oM_gen (fun Kv hK => ?_)); simp [go_sem]; (try simp (disch := omega) only [wrapI64, wrapU8, wrapU32, wrapU64]); (first | refine hK _ _ ?_ | refine And.intro (by omega) (hK _ _ ?_)); clear hK; clear Kv)))
      exact ⟨rfl, rfl⟩
    | cons c r =>
      have hc : (c :: r).getD 0 0 = c := rfl
      repeat (any_goals (first
      | (with_reducible refine pureM_in ?_)
      | (with_reducible refine gdtT ?_) | (with_reducible refine gdtF ?_) | (with_reducible refine gdfF ?_) | (with_reducible refine gdfT ?_) | (with_reducible refine gdu ?_ _)
      | (with_reducible refine gdt_pos (by first | assumption | omega) ?_) | (with_reducible refine gdt_neg (by first | assumption | omega) ?_) | (with_reducible refine gdt_split (fun hg => ?_) (fun hg => ?_))
      | (with_reducible refine gdf_pos (by first | assumption | omega) ?_) | (with_reducible refine gdf_neg (by first | assumption | omega) ?_) | (with_reducible refine gdf_split (fun hg => ?_) (fun hg => ?_))
      | (with_reducible refine gdtn_pos (by first | assumption | omega) ?_) | (with_reducible refine gdtn_neg (by first | assumption | omega) ?_) | (with_reducible refine gdtn_split (fun hg => ?_) (fun hg => ?_))
      | (with_reducible refine gdfn_pos (by first | assumption | omega) ?_) | (with_reducible refine gdfn_neg (by first | assumption | omega) ?_) | (with_reducible refine gdfn_split (fun hg => ?_) (fun hg => ?_))
      | (with_reducible refine gdtbn_pos (by assumption) ?_) | (with_reducible refine gdtbn_neg (by assumption) ?_) | (with_reducible refine gdfbn_pos (by assumption) ?_) | (with_reducible refine gdfbn_neg (by assumption) ?_)
      | (with_reducible refine gdtb_pos (by assumption) ?_) | (with_reducible refine gdtb_neg (by assumption) ?_) | (with_reducible refine gdtb_split (fun hg => ?_) (fun hg => ?_))
      | (with_reducible refine gdfb_pos (by assumption) ?_) | (with_reducible refine gdfb_neg (by assumption) ?_) | (with_reducible refine gdfb_split (fun hg => ?_) (fun hg => ?_))
      | (with_reducible refine pickT ?_) | (with_reducible refine pickF ?_)
      | (with_reducible refine pick_pos (by first | assumption | omega) ?_) | (with_reducible refine pick_neg (by first | assumption | omega) ?_)
      | (with_reducible refine pickn_pos (by first | assumption | omega) ?_) | (with_reducible refine pickn_neg (by first | assumption | omega) ?_)
      | (with_reducible refine pickbn_pos (by assumption) ?_) | (with_reducible refine pickbn_neg (by assumption) ?_)
      | (with_reducible refine pickb_pos (by assumption) ?_) | (with_reducible refine pickb_neg (by assumption) ?_)
      | (with_reducible refine condT ?_) | (with_reducible refine condF ?_)
      | (with_reducible refine cond_pos (by first | assumption | omega) ?_) | (with_reducible refine cond_neg (by first | assumption | omega) ?_) | (with_reducible refine condM_dec (fun hg => ?_) (fun hg => ?_))
      | (with_reducible refine condn_pos (by first | assumption | omega) ?_) | (with_reducible refine condn_neg (by first | assumption | omega) ?_) | (with_reducible refine condM_ndec (fun hg => ?_) (fun hg => ?_))
      | (with_reducible refine condbn_pos (by assumption) ?_) | (with_reducible refine condbn_neg (by assumption) ?_) | (with_reducible refine condbn_split (fun hg => ?_) (fun hg => ?_))
      | (with_reducible refine condb_pos (by assumption) ?_) | (with_reducible refine condb_neg (by assumption) ?_) | (with_reducible refine condM_b (fun hg => ?_) (fun hg => ?_))
      | ((with_reducible refine oM_gen (fun Kv hK => ?_)); simp [go_sem]; (try simp (disch := omega) only [wrapI64, wrapU8, wrapU32, wrapU64]); (first | refine hK _ _ ?_ | refine And.intro (by omega) (hK _ _ ?_)); clear hK; clear Kv)))
      · refine ⟨rfl, ?_⟩
        have : c = 45 := UInt8.toNat_inj.1 (by simp; omega)
        rw [this]; rfl
      · refine ⟨rfl, ?_⟩
        have : c ≠ 45 := fun e => by subst e; simp at hg
        simp [sgn, this]
      all_goals (simp only [List.length_cons] at *; omega)
  rintro _ _ _ ⟨rfl, rfl⟩
  simp only [List.getD_cons_zero]
  obtain ⟨a, ha⟩ : ∃ a, a = sgn s := ⟨_, rfl⟩
  rw [← ha] at hsg ⊢
  refine ⟨fun l w' => w = w' ∧ ∃ (n : Int) (i : Nat), l = [.int .i64 0, .bool false, .int .i64 n, .int .i64 i] ∧ a ≤ i ∧ (i ≤ s.length ∨ i = a) ∧ InR n ∧ ∀ m, InR m → s = itoa m → n = -(numL ((s.drop a).take (i - a)) : Int), fun l _ => s.length - (match l with | [_, _, _, .int _ n] => n.toNat | _ => 0), ⟨rfl, 0, a, rfl, by omega, .inr rfl, ⟨by omega, by omega⟩, fun m _ _ => by simp [numL]⟩, ?_⟩
  rintro _ _ _ ⟨rfl, n, i, rfl, hai, hil, hn, hinv⟩
  simp only [List.getD_cons_zero, List.getD_cons_succ]
  by_cases hlt : i < s.length
  · obtain ⟨c, hc⟩ : ∃ c, c = s[i] := ⟨_, rfl⟩
    have hbyte : s[i]?.getD 0 = c := by rw [List.getElem?_eq_getElem hlt, hc]; rfl
    have hfacts : ∀ m, InR m → s = itoa m → 48 ≤ c.toNat ∧ c.toNat ≤ 57 ∧ i ≤ 20 := by
      intro m hm e
      have h1 := itoa_len m hm
      rw [← e] at h1
      have h2 : c ∈ decDigits m.natAbs := by
        rw [← itoa_drop m, ← e, ← ha, hc]
        rw [List.mem_iff_getElem]
        exact ⟨i - a, by rw [List.length_drop]; omega, by rw [List.getElem_drop]; congr 1; omega⟩
      have h3 := decDigits_digit _ c h2
      omega
    have hstep : ∀ m, InR m → s = itoa m → ((s.drop a).take (i + 1 - a)) = ((s.drop a).take (i - a)) ++ [c] := by
      intro m hm e
      have : i + 1 - a = (i - a) + 1 := by omega
      rw [this, List.take_add_one, List.getElem?_drop]
      have e2 : a + (i - a) = i := by omega
      rw [e2, List.getElem?_eq_getElem hlt, ← hc]; rfl
    obtain ⟨hn1, hn2⟩ := hn
    have bad : (∀ m, InR m → s ≠ itoa m) → K (.tuple #[.int .i64 0, .bool false]) w := by
      intro h
      have h1 := canon_none s h
      have := k 0 w (Below.refl _ _) (fun n e => by rw [h1] at e; cases e)
      rw [h1] at this
      exact this
    repeat (any_goals (first
    | (with_reducible refine pureM_in ?_)
    | (with_reducible refine gdtT ?_) | (with_reducible refine gdtF ?_) | (with_reducible refine gdfF ?_) | (with_reducible refine gdfT ?_) | (with_reducible refine gdu ?_ _)
    | (with_reducible refine gdt_pos (by first | assumption | omega) ?_) | (with_reducible refine gdt_neg (by first | assumption | omega) ?_) | (with_reducible refine gdt_split (fun hg => ?_) (fun hg => ?_))
    | (with_reducible refine gdf_pos (by first | assumption | omega) ?_) | (with_reducible refine gdf_neg (by first | assumption | omega) ?_) | (with_reducible refine gdf_split (fun hg => ?_) (fun hg => ?_))
    | (with_reducible refine gdtn_pos (by first | assumption | omega) ?_) | (with_reducible refine gdtn_neg (by first | assumption | omega) ?_) | (with_reducible refine gdtn_split (fun hg => ?_) (fun hg => ?_))
    | (with_reducible refine gdfn_pos (by first | assumption | omega) ?_) | (with_reducible refine gdfn_neg (by first | assumption | omega) ?_) | (with_reducible refine gdfn_split (fun hg => ?_) (fun hg => ?_))
    | (with_reducible refine gdtbn_pos (by assumption) ?_) | (with_reducible refine gdtbn_neg (by assumption) ?_) | (with_reducible refine gdfbn_pos (by assumption) ?_) | (with_reducible refine gdfbn_neg (by assumption) ?_)
    | (with_reducible refine gdtb_pos (by assumption) ?_) | (with_reducible refine gdtb_neg (by assumption) ?_) | (with_reducible refine gdtb_split (fun hg => ?_) (fun hg => ?_))
    | (with_reducible refine gdfb_pos (by assumption) ?_) | (with_reducible refine gdfb_neg (by assumption) ?_) | (with_reducible refine gdfb_split (fun hg => ?_) (fun hg => ?_))
    | (with_reducible refine pickT ?_) | (with_reducible refine pickF ?_)
    | (with_reducible refine pick_pos (by first | assumption | omega) ?_) | (with_reducible refine pick_neg (by first | assumption | omega) ?_)
    | (with_reducible refine pickn_pos (by first | assumption | omega) ?_) | (with_reducible refine pickn_neg (by first | assumption | omega) ?_)
    | (with_reducible refine pickbn_pos (by assumption) ?_) | (with_reducible refine pickbn_neg (by assumption) ?_)
    | (with_reducible refine pickb_pos (by assumption) ?_) | (with_reducible refine pickb_neg (by assumption) ?_)
    | (with_reducible refine condT ?_) | (with_reducible refine condF ?_)
    | (with_reducible refine cond_pos (by first | assumption | omega) ?_) | (with_reducible refine cond_neg (by first | assumption | omega) ?_) | (with_reducible refine condM_dec (fun hg => ?_) (fun hg => ?_))
    | (with_reducible refine condn_pos (by first | assumption | omega) ?_) | (with_reducible refine condn_neg (by first | assumption | omega) ?_) | (with_reducible refine condM_ndec (fun hg => ?_) (fun hg => ?_))
    | (with_reducible refine condbn_pos (by assumption) ?_) | (with_reducible refine condbn_neg (by assumption) ?_) | (with_reducible refine condbn_split (fun hg => ?_) (fun hg => ?_))
    | (with_reducible refine condb_pos (by assumption) ?_) | (with_reducible refine condb_neg (by assumption) ?_) | (with_reducible refine condM_b (fun hg => ?_) (fun hg => ?_))
    | ((with_reducible refine oM_gen (fun Kv hK => ?_)); simp [go_sem, hbyte]; (try simp (disch := omega) only [wrapI64, wrapU8, wrapU32, wrapU64]); (first | refine hK _ _ ?_ | refine And.intro (by omega) (hK _ _ ?_)); clear hK; clear Kv)))
    · exact bad (fun m hm e => by have := hfacts m hm e; omega)
    · exact bad (fun m hm e => by have := hfacts m hm e; omega)
    · exact bad (fun m hm e => by have := hfacts m hm e; omega)
    · refine ⟨⟨rfl, _, i + 1, rfl, by omega, .inl hlt, wrap_range _, fun m hm e => ?_⟩, by simp; omega⟩
      have hnum := hinv m hm e
      have hst := hstep m hm e
      have hmono := numL_mono (s.drop a) (i + 1 - a)
      have htot : numL (s.drop a) = m.natAbs := by
        have h0 : s.drop (sgn s) = (itoa m).drop (sgn (itoa m)) := by rw [← e]
        rw [ha, h0, itoa_drop m, numL_dec]
      rw [hst, numL_snoc] at hmono ⊢
      obtain ⟨hm1, hm2⟩ := hm
      rw [htot] at hmono
      generalize numL ((s.drop a).take (i - a)) = A at *
      rw [hnum]
      have hc1 : ((c.toNat - 48 : Nat) : Int) = (c.toNat : Int) - 48 := by omega
      rw [wrapI64 (10 * -(A : Int)) (by omega) (by omega), wrapI64 _ (by omega) (by omega)]
      omega
  · have hfin : ∀ m, InR m → s = itoa m → n = -(m.natAbs : Int) := by
      intro m hm e
      have := hinv m hm e
      have htk : (s.drop a).take (i - a) = s.drop a := List.take_of_length_le (by rw [List.length_drop]; omega)
      have htot : numL (s.drop a) = m.natAbs := by
        have h0 : s.drop (sgn s) = (itoa m).drop (sgn (itoa m)) := by rw [← e]
        rw [ha, h0, itoa_drop m, numL_dec]
      rw [htk, htot] at this
      exact this
    repeat (any_goals (first
    | (with_reducible refine pureM_in ?_)
    | (with_reducible refine gdtT ?_) | (with_reducible refine gdtF ?_) | (with_reducible refine gdfF ?_) | (with_reducible refine gdfT ?_) | (with_reducible refine gdu ?_ _)
    | (with_reducible refine gdt_pos (by first | assumption | omega) ?_) | (with_reducible refine gdt_neg (by first | assumption | omega) ?_) | (with_reducible refine gdt_split (fun hg => ?_) (fun hg => ?_))
    | (with_reducible refine gdf_pos (by first | assumption | omega) ?_) | (with_reducible refine gdf_neg (by first | assumption | omega) ?_) | (with_reducible refine gdf_split (fun hg => ?_) (fun hg => ?_))
    | (with_reducible refine gdtn_pos (by first | assumption | omega) ?_) | (with_reducible refine gdtn_neg (by first | assumption | omega) ?_) | (with_reducible refine gdtn_split (fun hg => ?_) (fun hg => ?_))
    | (with_reducible refine gdfn_pos (by first | assumption | omega) ?_) | (with_reducible refine gdfn_neg (by first | assumption | omega) ?_) | (with_reducible refine gdfn_split (fun hg => ?_) (fun hg => ?_))
    | (with_reducible refine gdtbn_pos (by assumption) ?_) | (with_reducible refine gdtbn_neg (by assumption) ?_) | (with_reducible refine gdfbn_pos (by assumption) ?_) | (with_reducible refine gdfbn_neg (by assumption) ?_)
    | (with_reducible refine gdtb_pos (by assumption) ?_) | (with_reducible refine gdtb_neg (by assumption) ?_) | (with_reducible refine gdtb_split (fun hg => ?_) (fun hg => ?_))
    | (with_reducible refine gdfb_pos (by assumption) ?_) | (with_reducible refine gdfb_neg (by assumption) ?_) | (with_reducible refine gdfb_split (fun hg => ?_) (fun hg => ?_))
    | (with_reducible refine pickT ?_) | (with_reducible refine pickF ?_)
    | (with_reducible refine pick_pos (by first | assumption | omega) ?_) | (with_reducible refine pick_neg (by first | assumption | omega) ?_)
    | (with_reducible refine pickn_pos (by first | assumption | omega) ?_) | (with_reducible refine pickn_neg (by first | assumption | omega) ?_)
    | (with_reducible refine pickbn_pos (by assumption) ?_) | (with_reducible refine pickbn_neg (by assumption) ?_)
    | (with_reducible refine pickb_pos (by assumption) ?_) | (with_reducible refine pickb_neg (by assumption) ?_)
    | (with_reducible refine condT ?_) | (with_reducible refine condF ?_)
    | (with_reducible refine cond_pos (by first | assumption | omega) ?_) | (with_reducible refine cond_neg (by first | assumption | omega) ?_) | (with_reducible refine condM_dec (fun hg => ?_) (fun hg => ?_))
    | (with_reducible refine condn_pos (by first | assumption | omega) ?_) | (with_reducible refine condn_neg (by first | assumption | omega) ?_) | (with_reducible refine condM_ndec (fun hg => ?_) (fun hg => ?_))
    | (with_reducible refine condbn_pos (by assumption) ?_) | (with_reducible refine condbn_neg (by assumption) ?_) | (with_reducible refine condbn_split (fun hg => ?_) (fun hg => ?_))
    | (with_reducible refine condb_pos (by assumption) ?_) | (with_reducible refine condb_neg (by assumption) ?_) | (with_reducible refine condM_b (fun hg => ?_) (fun hg => ?_))
    | ((with_reducible refine oM_gen (fun Kv hK => ?_)); simp [go_sem]; (try simp (disch := omega) only [wrapI64, wrapU8, wrapU32, wrapU64]); (first | refine hK _ _ ?_ | refine And.intro (by omega) (hK _ _ ?_)); clear hK; clear Kv)))
    refine ⟨fun l w' => w = w' ∧ ∃ v, l = [.int .i64 v] ∧ InR v ∧ ∀ m, InR m → s = itoa m → v = m, ?_, ?_⟩
    · have hsm : ∀ m, s = itoa m → (a = 1 ↔ m < 0) := by
        intro m e
        rw [ha, ← itoa_head m, ← e]
        unfold sgn
        split <;> simp_all
      repeat (any_goals (first
      | (with_reducible refine pureM_in ?_)
      | (with_reducible refine gdtT ?_) | (with_reducible refine gdtF ?_) | (with_reducible refine gdfF ?_) | (with_reducible refine gdfT ?_) | (with_reducible refine gdu ?_ _)
      | (with_reducible refine gdt_pos (by first | assumption | omega) ?_) | (with_reducible refine gdt_neg (by first | assumption | omega) ?_) | (with_reducible refine gdt_split (fun hg => ?_) (fun hg => ?_))
      | (with_reducible refine gdf_pos (by first | assumption | omega) ?_) | (with_reducible refine gdf_neg (by first | assumption | omega) ?_) | (with_reducible refine gdf_split (fun hg => ?_) (fun hg => ?_))
      | (with_reducible refine gdtn_pos (by first | assumption | omega) ?_) | (with_reducible refine gdtn_neg (by first | assumption | omega) ?_) | (with_reducible refine gdtn_split (fun hg => ?_) (fun hg => ?_))
      | (with_reducible refine gdfn_pos (by first | assumption | omega) ?_) | (with_reducible refine gdfn_neg (by first | assumption | omega) ?_) | (with_reducible refine gdfn_split (fun hg => ?_) (fun hg => ?_))
      | (with_reducible refine gdtbn_pos (by assumption) ?_) | (with_reducible refine gdtbn_neg (by assumption) ?_) | (with_reducible refine gdfbn_pos (by assumption) ?_) | (with_reducible refine gdfbn_neg (by assumption) ?_)
      | (with_reducible refine gdtb_pos (by assumption) ?_) | (with_reducible refine gdtb_neg (by assumption) ?_) | (with_reducible refine gdtb_split (fun hg => ?_) (fun hg => ?_))
      | (with_reducible refine gdfb_pos (by assumption) ?_) | (with_reducible refine gdfb_neg (by assumption) ?_) | (with_reducible refine gdfb_split (fun hg => ?_) (fun hg => ?_))
      | (with_reducible refine pickT ?_) | (with_reducible refine pickF ?_)
      | (with_reducible refine pick_pos (by first | assumption | omega) ?_) | (with_reducible refine pick_neg (by first | assumption | omega) ?_)
      | (with_reducible refine pickn_pos (by first | assumption | omega) ?_) | (with_reducible refine pickn_neg (by first | assumption | omega) ?_)
      | (with_reducible refine pickbn_pos (by assumption) ?_) | (with_reducible refine pickbn_neg (by assumption) ?_)
      | (with_reducible refine pickb_pos (by assumption) ?_) | (with_reducible refine pickb_neg (by assumption) ?_)
      | (with_reducible refine condT ?_) | (with_reducible refine condF ?_)
      | (with_reducible refine cond_pos (by first | assumption | omega) ?_) | (with_reducible refine cond_neg (by first | assumption | omega) ?_) | (with_reducible refine condM_dec (fun hg => ?_) (fun hg => ?_))
      | (with_reducible refine condn_pos (by first | assumption | omega) ?_) | (with_reducible refine condn_neg (by first | assumption | omega) ?_) | (with_reducible refine condM_ndec (fun hg => ?_) (fun hg => ?_))
      | (with_reducible refine condbn_pos (by assumption) ?_) | (with_reducible refine condbn_neg (by assumption) ?_) | (with_reducible refine condbn_split (fun hg => ?_) (fun hg => ?_))
      | (with_reducible refine condb_pos (by assumption) ?_) | (with_reducible refine condb_neg (by assumption) ?_) | (with_reducible refine condM_b (fun hg => ?_) (fun hg => ?_))
      | ((with_reducible refine oM_gen (fun Kv hK => ?_)); simp [go_sem]; (try simp (disch := omega) only [wrapI64, wrapU8, wrapU32, wrapU64]); (first | refine hK _ _ ?_ | refine And.intro (by omega) (hK _ _ ?_)); clear hK; clear Kv)))
      · refine ⟨rfl, _, rfl, wrap_range _, fun m hm e => ?_⟩
        have h1 := hfin m hm e
        have h2 := hsm m e
        obtain ⟨hm1, hm2⟩ := hm
        rw [wrapI64 _ (by omega) (by omega)]
        omega
      · refine ⟨rfl, _, rfl, hn, fun m hm e => ?_⟩
        have h1 := hfin m hm e
        have h2 := hsm m e
        omega
    · rintro _ _ _ ⟨rfl, v, rfl, hv, hvm⟩
      simp only [List.getD_cons_zero]
      refine qInt_ok v hv ?_
      intro w1 hb
      have hcan : (canon s).isSome = decide (encInt v = s ++ [59]) := by
        rw [Bool.eq_iff_iff, decide_eq_true_eq]
        unfold encInt
        rw [List.append_left_inj]
        constructor
        · intro h
          obtain ⟨m, hm⟩ := Option.isSome_iff_exists.1 h
          obtain ⟨h1, h2⟩ := canon_some s m hm
          rw [hvm m h2 h1, ← h1]
        · intro h
          rw [← h, canon_itoa v hv]; rfl
      repeat (any_goals (first
      | (with_reducible refine pureM_in ?_)
      | (with_reducible refine gdtT ?_) | (with_reducible refine gdtF ?_) | (with_reducible refine gdfF ?_) | (with_reducible refine gdfT ?_) | (with_reducible refine gdu ?_ _)
      | (with_reducible refine gdt_pos (by first | assumption | omega) ?_) | (with_reducible refine gdt_neg (by first | assumption | omega) ?_) | (with_reducible refine gdt_split (fun hg => ?_) (fun hg => ?_))
      | (with_reducible refine gdf_pos (by first | assumption | omega) ?_) | (with_reducible refine gdf_neg (by first | assumption | omega) ?_) | (with_reducible refine gdf_split (fun hg => ?_) (fun hg => ?_))
      | (with_reducible refine gdtn_pos (by first | assumption | omega) ?_) | (with_reducible refine gdtn_neg (by first | assumption | omega) ?_) | (with_reducible refine gdtn_split (fun hg => ?_) (fun hg => ?_))
      | (with_reducible refine gdfn_pos (by first | assumption | omega) ?_) | (with_reducible refine gdfn_neg (by first | assumption | omega) ?_) | (with_reducible refine gdfn_split (fun hg => ?_) (fun hg => ?_))
      | (with_reducible refine gdtbn_pos (by assumption) ?_) | (with_reducible refine gdtbn_neg (by assumption) ?_) | (with_reducible refine gdfbn_pos (by assumption) ?_) | (with_reducible refine gdfbn_neg (by assumption) ?_)
      | (with_reducible refine gdtb_pos (by assumption) ?_) | (with_reducible refine gdtb_neg (by assumption) ?_) | (with_reducible refine gdtb_split (fun hg => ?_) (fun hg => ?_))
      | (with_reducible refine gdfb_pos (by assumption) ?_) | (with_reducible refine gdfb_neg (by assumption) ?_) | (with_reducible refine gdfb_split (fun hg => ?_) (fun hg => ?_))
      | (with_reducible refine pickT ?_) | (with_reducible refine pickF ?_)
      | (with_reducible refine pick_pos (by first | assumption | omega) ?_) | (with_reducible refine pick_neg (by first | assumption | omega) ?_)
      | (with_reducible refine pickn_pos (by first | assumption | omega) ?_) | (with_reducible refine pickn_neg (by first | assumption | omega) ?_)
      | (with_reducible refine pickbn_pos (by assumption) ?_) | (with_reducible refine pickbn_neg (by assumption) ?_)
      | (with_reducible refine pickb_pos (by assumption) ?_) | (with_reducible refine pickb_neg (by assumption) ?_)
      | (with_reducible refine condT ?_) | (with_reducible refine condF ?_)
      | (with_reducible refine cond_pos (by first | assumption | omega) ?_) | (with_reducible refine cond_neg (by first | assumption | omega) ?_) | (with_reducible refine condM_dec (fun hg => ?_) (fun hg => ?_))
      | (with_reducible refine condn_pos (by first | assumption | omega) ?_) | (with_reducible refine condn_neg (by first | assumption | omega) ?_) | (with_reducible refine condM_ndec (fun hg => ?_) (fun hg => ?_))
      | (with_reducible refine condbn_pos (by assumption) ?_) | (with_reducible refine condbn_neg (by assumption) ?_) | (with_reducible refine condbn_split (fun hg => ?_) (fun hg => ?_))
      | (with_reducible refine condb_pos (by assumption) ?_) | (with_reducible refine condb_neg (by assumption) ?_) | (with_reducible refine condM_b (fun hg => ?_) (fun hg => ?_))
      | ((with_reducible refine oM_gen (fun Kv hK => ?_)); simp [go_sem]; (try simp (disch := omega) only [wrapI64, wrapU8, wrapU32, wrapU64]); (first | refine hK _ _ ?_ | refine And.intro (by omega) (hK _ _ ?_)); clear hK; clear Kv)))
      have := k v w1 hb (fun m e => by
        obtain ⟨h1, h2⟩ := canon_some s m e
        exact hvm m h2 h1)
      rw [hcan] at this
      exact this
end Go.Proofs
