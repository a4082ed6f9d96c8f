/- Parts of the proof of the seat's statements (JcR2, JcI, JcF, JcG, JcG2, JG, JcG3, ShArr, ShMn, JnSpec, DkSpec, DkLaw, DkLaw4, JnLaw, JnLaw2, JnSum, JA, JB, JdkA, JdkB, JdkC, JdkD, JdkE, JdkF, ShMap6, JdkG, JdkH, JdkI0, JdkI1, JdkJ, JC, JD): lemmas about the given translation and plain laws. No condition of their own. -/
import Derived.Test.YtefjibjojkjiiaaGreatDoorJnb
import Derived.Laws.IdiomStrings
import Derived.Laws.CopyRow
import Derived.Laws.IdiomCopy
set_option linter.all false
namespace Go.Proofs.Cd
open Go Go.Sh Go.RowKit Go.Lib CodeSpec
set_option linter.unusedSimpArgs false
set_option maxRecDepth 10000
theorem rest_le (r : Rd) (e : UInt8) (least : Int) : (rdNumber r e least).2.rest.length ≤ r.rest.length := by
  rcases rdNumber_some r e least with h | ⟨n, t, h, h2, _⟩
  · rw [h]; simp [failed]
  · rw [h, h2]; simp; omega
theorem rnum_ok (b : Nat) (r : Rd) {K : Value → World → Prop} {w : World} (hl : Laid w) (hlen : r.rest.length < 2^60) (hr : IsRd w b r) (k : ∀ w', IsRd w' b (rdNum r).2 → w.grownBy w' (some b) → K (.int .i64 (rdNum r).1) w') : callM Tryz.prog 54 #[.pointer (some ⟨b, 0, none⟩)] K w := by
  apply sh_54_ok
  unfold sh_54
  exact number_ok b r 59 0 hl hlen hr k
theorem rtext_ok (b : Nat) (r : Rd) {K : Value → World → Prop} {w : World} (hl : Laid w) (hlen : r.rest.length < 2^60) (hr : IsRd w b r) (k : ∀ w', IsRd w' b (rdText r).2 → w.grownBy w' (some b) → K (.string ⟨(rdText r).1.toArray⟩) w') : callM Tryz.prog 53 #[.pointer (some ⟨b, 0, none⟩)] K w := by
  apply sh_53_ok
  unfold sh_53
  refine number_ok b r 58 0 hl hlen hr ?_
  intro w1 hr1 hg1
  have hle := rest_le r 58 0
  have h0n : 0 ≤ (rdNumber r 58 0).1 := by
    rcases rdNumber_some r 58 0 with h | ⟨n, t, h, _, _, h3⟩
    · rw [h]; exact Int.le_refl 0
    · rw [h]; exact h3
  have hnum : rdText r = if ((rdNumber r 58 0).2.rest.length : Int) < (rdNumber r 58 0).1 then ([], failed)
      else if (rdClose ⟨(rdNumber r 58 0).2.rest.drop (rdNumber r 58 0).1.toNat, (rdNumber r 58 0).2.bad⟩ 44).bad then ([], rdClose ⟨(rdNumber r 58 0).2.rest.drop (rdNumber r 58 0).1.toNat, (rdNumber r 58 0).2.bad⟩ 44)
      else ((rdNumber r 58 0).2.rest.take (rdNumber r 58 0).1.toNat, rdClose ⟨(rdNumber r 58 0).2.rest.drop (rdNumber r 58 0).1.toNat, (rdNumber r 58 0).2.bad⟩ 44) := rfl
  generalize (rdNumber r 58 0).2 = r1 at *
  generalize (rdNumber r 58 0).1 = n at *
  have h0 := hr1.c0
  have f0 := hr1.fz 0
  by_cases hlt : (r1.rest.length : Int) < n
  · rw [if_pos hlt] at hnum
    repeat (any_goals (first
    | (with_reducible ((refine idCond ?_); refine yN ?_))
    | ((with_reducible refine idO ?_); (with_reducible refine oM_gen fun Kv hK=>?_); simp [go_sem, h0]; refine hK _ _ ?_; clear hK; clear Kv)))
    refine fail_ok b _ hr1 ?_
    intro w2 hr2 hg2
    exact K_eq (k w2 (by rw [hnum]; exact hr2) (grownBy_trans hg1 hg2)) (by rw [hnum])
  · rw [if_neg hlt] at hnum
    have htl : List.take r1.rest.length r1.rest = r1.rest := List.take_length
    repeat (any_goals (first
    | (with_reducible ((refine idCond ?_); refine yO ?_))
    | ((with_reducible refine idO ?_); (with_reducible refine oM_gen fun Kv hK=>?_); simp [go_sem, h0, f0, htl]; (first|refine hK _ _ ?_|refine And.intro (by omega) (hK _ _ ?_)); clear hK; clear Kv)))
    refine close_ok b _ 44 (hr1.set0 _) ?_
    intro w2 hr2 hg2
    have h2 := hr2.c1
    have hg := grownBy_trans hg1 (grownBy_trans (grown_set _ _ _ _) hg2)
    cases hbad : (rdClose ⟨r1.rest.drop n.toNat, r1.bad⟩ 44).bad with
    | true =>
      rw [hbad] at hnum h2
      rw [if_pos rfl] at hnum
      repeat (any_goals (first
      | (with_reducible ((refine idCond ?_); refine yL ?_))
      | ((with_reducible refine idO ?_); (with_reducible refine oM_gen fun Kv hK=>?_); simp [go_sem, h2]; refine hK _ _ ?_; clear hK; clear Kv)))
      exact K_eq (k w2 (by rw [hnum]; exact hr2) hg) (by rw [hnum])
    | false =>
      rw [hbad] at hnum h2
      rw [if_neg (by simp)] at hnum
      repeat (any_goals (first
      | (with_reducible ((refine idCond ?_); refine yM ?_))
      | ((with_reducible refine idO ?_); (with_reducible refine oM_gen fun Kv hK=>?_); simp [go_sem, h2]; refine hK _ _ ?_; clear hK; clear Kv)))
      exact K_eq (k w2 (by rw [hnum]; exact hr2) hg) (by rw [hnum])
theorem open_ok (s : List UInt8) {K : Value → World → Prop} {w : World} (k : ∀ w', IsRd w' w.heap.size ⟨s, false⟩ → Below w.heap.size w w' → K (.pointer (some ⟨w.heap.size, 0, none⟩)) w') : callM Tryz.prog 52 #[.string ⟨s.toArray⟩] K w := by
  apply sh_52_ok
  unfold sh_52
  repeat (any_goals ((with_reducible refine idO ?_); (with_reducible refine oM_gen fun Kv hK=>?_); simp [go_sem]; refine hK _ _ ?_; clear hK; clear Kv))
  exact k _ (by unfold IsRd; exact heap_alloc_new _ _) ((Below.refl _ _).alloc (Nat.le_refl _) _)
end Go.Proofs.Cd
namespace Go.Proofs.Cd
open Go Go.Sh Go.RowKit Go.Lib CodeSpec
set_option linter.unusedSimpArgs false
set_option maxRecDepth 10000
theorem IsRd.own {w2 w3 : World} {b B : Nat} {e : TypeId} {sz n : Nat} {v : Value} {xs : List Value} {r : Rd} (h : IsRd w2 b r) (hown : w2.ownsRow B e sz v n xs) (hB : b < B) (hg : w2.grownBy w3 v.ownBlock) : IsRd w3 b r := by
  have hlt := h.lt
  unfold IsRd at h ⊢
  rw [hg.block b hlt (fun e => by have := (hown.lt b e.symm).1; omega)]
  exact h
end Go.Proofs.Cd
namespace Go.Proofs.Cd
open Go Go.Sh Go.RowKit Go.Lib CodeSpec
set_option linter.unusedSimpArgs false
set_option maxRecDepth 10000
theorem digits_ok (m : Nat) (hm : m ≤ 9223372036854775808) {K : Value → World → Prop} {w : World} (k : ∀ w', Below w.heap.size w w' → K (.string ⟨(decDigits m).toArray⟩) w') : callM Tryz.prog 81 #[.int .i64 (-(m : Int))] K w := by
  induction m using Nat.strongRecOn generalizing K w with
  | ind m ih =>
  apply sh_81_ok
  unfold sh_81
  have hr : (-(m : Int)).tmod 10 = -((m % 10 : Nat) : Int) := by rw [Int.neg_tmod, Int.tmod_eq_emod_of_nonneg (by omega)]; omega
  have hq : (-(m : Int)).tdiv 10 = -((m / 10 : Nat) : Int) := by rw [Int.neg_tdiv, Int.tdiv_eq_ediv_of_nonneg (by omega)]; omega
  obtain ⟨d, hd⟩ : ∃ d, d = m % 10 := ⟨_, rfl⟩
  obtain ⟨q, hqq⟩ : ∃ q, q = m / 10 := ⟨_, rfl⟩
  rw [← hd] at hr
  rw [← hqq] at hq
  have hd10 : d < 10 := by omega
  have hconv : (convert 96 9 (.slice (some ⟨w.heap.size, 0, none⟩) 1 1)).run Tryz.prog (w.alloc (.cells #[.int .u8 (48 + (d : Int))] 5)) = .ok (.string ⟨[UInt8.ofNat (48 + d)].toArray⟩) (w.alloc (.cells #[.int .u8 (48 + (d : Int))] 5)) := by
    refine run_convert_bytes_back (P := Tryz.prog) _ 96 9 5 ⟨w.heap.size, 0, none⟩ 1 [UInt8.ofNat (48 + d)] Tryz.underlying96 (by kernel_rfl) Tryz.underlying9 ?_
    intro j hj
    obtain rfl : j = 0 := by simpa using hj
    have hdn := digit_toNat d hd10
    rw [addr_add]
    unfold World.cell?
    rw [heap_alloc_new]
    simp only [List.getElem_cons_zero, hdn]
    simp
  have hba : Below w.heap.size w (w.alloc (.cells #[.int .u8 (48 + (d : Int))] 5)) := (Below.refl _ _).alloc (Nat.le_refl _) _
  have hdl := decDigits_len q 19 (by omega) (by omega)
  repeat (any_goals (first
  | (with_reducible ((refine idCond ?_); refine yP (fun hg=>?_) fun hg=>?_))
  | ((with_reducible refine idO ?_); (with_reducible refine oM_gen fun Kv hK=>?_); simp [go_sem, hr, hq, hconv]; (try simp (disch := omega) only [wrapI64, wrapU8, wrapU32, wrapU64]); refine hK _ _ ?_; clear hK; clear Kv)))
  · refine K_eq (k _ hba) ?_
    have : m < 10 := by omega
    rw [decDigits, dif_pos this]
    have : d = m := by omega
    rw [this]
    simp
  · refine ih q (by omega) (by omega) ?_
    intro w' hb
    repeat (any_goals ((with_reducible refine idO ?_); (with_reducible refine oM_gen fun Kv hK=>?_); simp [go_sem]; refine And.intro (by omega) (hK _ _ ?_); clear hK; clear Kv))
    refine K_eq (k _ (hba.trans (hb.mono (by simp)))) ?_
    have : ¬ m < 10 := by omega
    rw [decDigits.eq_def m, dif_neg this, hd, hqq]
    simp
theorem itoa_neg (n : Int) (h : n < 0) : itoa n = 45 :: decDigits n.natAbs := by rw [itoa, if_pos h]
theorem itoa_pos (n : Int) (h : ¬ n < 0) : itoa n = decDigits n.natAbs := by
  rw [itoa, if_neg h]
  congr 1
  omega
theorem dig_len (n : Int) (h : InR n) : (decDigits n.natAbs).length ≤ 19 := by
  obtain ⟨h1, h2⟩ := h
  exact decDigits_len n.natAbs 19 (by omega) (by omega)
theorem qInt_ok (n : Int) (hn : InR n) {K : Value → World → Prop} {w : World} (k : ∀ w', Below w.heap.size w w' → K (.string ⟨(encInt n).toArray⟩) w') : callM Tryz.prog 82 #[.int .i64 n] K w := by
  apply sh_82_ok
  unfold sh_82
  have hl := dig_len n hn
  have hn' := hn
  obtain ⟨h1, h2⟩ := hn'
  by_cases hneg : n < 0
  · have e : n = -(n.natAbs : Int) := by omega
    repeat (any_goals (first
    | (with_reducible ((refine idCond ?_); refine yN ?_))
    | ((with_reducible refine idO ?_); (with_reducible refine oM_gen fun Kv hK=>?_); simp [go_sem]; refine hK _ _ ?_; clear hK; clear Kv)))
    conv => enter [3]; rw [e]
    refine digits_ok n.natAbs (by omega) ?_
    intro w' hb
    repeat (any_goals ((with_reducible refine idO ?_); (with_reducible refine oM_gen fun Kv hK=>?_); simp [go_sem]; refine And.intro (by omega) (hK _ _ ?_); clear hK; clear Kv))
    exact K_eq (k _ hb) (by rw [encInt, itoa_neg n hneg]; simp)
  · have e : -n = -(n.natAbs : Int) := by omega
    repeat (any_goals (first
    | (with_reducible ((refine idCond ?_); refine yO ?_))
    | ((with_reducible refine idO ?_); (with_reducible refine oM_gen fun Kv hK=>?_); simp [go_sem]; (try simp (disch := omega) only [wrapI64, wrapU8, wrapU32, wrapU64]); refine hK _ _ ?_; clear hK; clear Kv)))
    rw [e]
    refine digits_ok n.natAbs (by omega) ?_
    intro w' hb
    repeat (any_goals ((with_reducible refine idO ?_); (with_reducible refine oM_gen fun Kv hK=>?_); simp [go_sem]; refine And.intro (by omega) (hK _ _ ?_); clear hK; clear Kv))
    exact K_eq (k _ hb) (by rw [encInt, itoa_pos n hneg])
theorem qNum_ok (n : Int) (hn : InR n) {K : Value → World → Prop} {w : World} (k : ∀ w', Below w.heap.size w w' → K (.string ⟨(encNum n).toArray⟩) w') : callM Tryz.prog 64 #[.int .i64 n] K w := by
  apply sh_64_ok
  unfold sh_64
  repeat (any_goals (first
  | (with_reducible ((refine idCond ?_); refine yP (fun hg=>?_) fun hg=>?_))
  | ((with_reducible refine idO ?_); (with_reducible refine oM_gen fun Kv hK=>?_); simp [go_sem]; refine hK _ _ ?_; clear hK; clear Kv)))
  · exact K_eq (k _ (Below.refl _ _)) (by simp [encNum, hg])
  · refine qInt_ok n hn ?_
    intro w1 hb
    exact K_eq (k _ hb) (by simp [encNum, hg])
theorem itoa_nat (m : Nat) : itoa (m : Int) = decDigits m := by
  rw [itoa, if_neg (by omega)]; simp
theorem qText_ok (s : List UInt8) (hs : s.length < 2^60) {K : Value → World → Prop} {w : World} (k : ∀ w', Below w.heap.size w w' → K (.string ⟨(encText s).toArray⟩) w') : callM Tryz.prog 63 #[.string ⟨s.toArray⟩] K w := by
  apply sh_63_ok
  unfold sh_63
  have hl := decDigits_len s.length 19 (by omega) (by omega)
  repeat (any_goals ((with_reducible refine idO ?_); (with_reducible refine oM_gen fun Kv hK=>?_); simp [go_sem]; (try simp (disch := omega) only [wrapI64, wrapU8, wrapU32, wrapU64]); refine hK _ _ ?_; clear hK; clear Kv))
  refine digits_ok s.length (by omega) ?_
  intro w' hb
  repeat (any_goals ((with_reducible refine idO ?_); (with_reducible refine oM_gen fun Kv hK=>?_); simp [go_sem]; refine And.intro (by omega) (hK _ _ ?_); clear hK; clear Kv))
  exact K_eq (k _ hb) (by simp [encText, itoa_nat])
end Go.Proofs.Cd
namespace Go.Proofs.Cd
open Go Go.Sh Go.RowKit Go.Lib CodeSpec
set_option linter.unusedSimpArgs false
set_option maxRecDepth 10000
def IsQd (w : World) (b : Nat) (r : Rd) : Prop := w.heap[b]? = some (.cells #[.string ⟨r.rest.toArray⟩, .bool r.bad] 94 (0, 0))
def SameW (w w' : World) : Prop := w = w'
theorem IsQd.c0 {w : World} {b : Nat} {r : Rd} (h : IsQd w b r) : w.cell? ⟨b, 0, none⟩ = some (.string ⟨r.rest.toArray⟩) := by
  unfold IsQd at h; simp [World.cell?, h]
theorem IsQd.c1 {w : World} {b : Nat} {r : Rd} (h : IsQd w b r) : w.cell? ⟨b, 1, none⟩ = some (.bool r.bad) := by
  unfold IsQd at h; simp [World.cell?, h]
theorem IsQd.fz {w : World} {b : Nat} {r : Rd} (h : IsQd w b r) (i : Nat) : w.frozen? ⟨b, i, none⟩ = false := by
  unfold IsQd at h; simp [World.frozen?, h]
theorem IsQd.lt {w : World} {b : Nat} {r : Rd} (h : IsQd w b r) : b < w.heap.size := (Array.getElem?_eq_some_iff.1 h).1
theorem IsQd.set0 {w : World} {b : Nat} {r : Rd} (h : IsQd w b r) (l : List UInt8) : IsQd (w.setCell ⟨b, 0, none⟩ (.string ⟨l.toArray⟩)) b ⟨l, r.bad⟩ := by
  unfold IsQd at h ⊢
  rw [heap_set h]; rfl
theorem IsQd.set1 {w : World} {b : Nat} {r : Rd} (h : IsQd w b r) (t : Bool) : IsQd (w.setCell ⟨b, 1, none⟩ (.bool t)) b ⟨r.rest, t⟩ := by
  unfold IsQd at h ⊢
  rw [heap_set h]; rfl
theorem IsQd.below {w w' : World} {b : Nat} {r : Rd} (h : IsQd w b r) {B : Nat} (hb : Below B w w') (hB : b < B) : IsQd w' b r := by
  unfold IsQd at h ⊢
  rw [hb.block _ hB]; exact h
theorem wrap_range (x : Int) : InR (IntKind.i64.wrap x) := by
  unfold IntKind.wrap InR
  simp only [IntKind.bits, IntKind.signed]
  simp
  omega
def numL (l : List UInt8) : Nat := l.foldl (fun a c => 10 * a + (c.toNat - 48)) 0
theorem numL_snoc (l : List UInt8) (c : UInt8) : numL (l ++ [c]) = 10 * numL l + (c.toNat - 48) := by simp [numL]
theorem numL_dec (u : Nat) : numL (decDigits u) = u := by
  induction u using Nat.strongRecOn with
  | ind u ih =>
    rw [decDigits]
    split
    · rename_i h
      have := digit_toNat u h
      simp only [numL, List.foldl_cons, List.foldl_nil, this]
      omega
    · rename_i h
      rw [numL_snoc, ih (u / 10) (by omega), digit_toNat _ (by omega)]
      omega
theorem numL_mono (l : List UInt8) (k : Nat) : numL (l.take k) ≤ numL l := by
  have key : ∀ (m : List UInt8) (a : Nat), a ≤ m.foldl (fun a c => 10 * a + (c.toNat - 48)) a := by
    intro m
    induction m with
    | nil => intro a; simp
    | cons c m ih =>
      intro a
      simp only [List.foldl_cons]
      have := ih (10 * a + (c.toNat - 48))
      omega
  conv => rhs; rw [← List.take_append_drop k l]
  unfold numL
  rw [List.foldl_append]
  exact key _ _
theorem itoa_head (m : Int) : (itoa m).head? = some 45 ↔ m < 0 := by
  by_cases h : m < 0
  · simp [itoa_neg m h, h]
  · simp only [h, iff_false]
    rw [itoa_pos m h]
    intro e
    have : (45 : UInt8) ∈ decDigits m.natAbs := by
      cases hd : decDigits m.natAbs with
      | nil => rw [hd] at e; cases e
      | cons c r => rw [hd] at e; simp at e; rw [e]; simp
    have := decDigits_digit _ _ this
    simp at this
def sgn (s : List UInt8) : Nat := if s.head? = some 45 then 1 else 0
theorem itoa_drop (m : Int) : (itoa m).drop (sgn (itoa m)) = decDigits m.natAbs := by
  unfold sgn
  by_cases h : m < 0
  · rw [if_pos ((itoa_head m).2 h), itoa_neg m h]; rfl
  · rw [if_neg (fun e => h ((itoa_head m).1 e)), itoa_pos m h]; rfl
theorem canon_none (s : List UInt8) (h : ∀ m, InR m → s ≠ itoa m) : canon s = none := by
  cases hc : canon s with
  | none => rfl
  | some m => exact absurd (canon_some s m hc).1 (h m (canon_some s m hc).2)
set_option maxHeartbeats 1600000 in
theorem backInt_ok (s : List UInt8) (hs : s.length < 2^40) {K : Value → World → Prop} {w : World} (k : ∀ v w', Below w.heap.size w w' → (∀ n, canon s = some n → v = n) → K (.tuple #[.int .i64 v, .bool (canon s).isSome]) w') : callM Tryz.prog 94 #[.string ⟨s.toArray⟩] K w := by
  apply sh_94_ok
  unfold sh_94
  have hsg : sgn s ≤ 1 := by unfold sgn; split <;> omega
  refine ⟨fun l w' => SameW w w' ∧ l = [.int .i64 (sgn s)], ?_, ?_⟩
  · cases s with
    | nil =>
      repeat (any_goals (first
      | (with_reducible first|((refine idGd ?_); refine zB ?_)|((refine idPick ?_); refine yC ?_)|((refine idCond ?_); refine yM ?_))
      | ((with_reducible refine idO ?_); (with_reducible refine oM_gen fun Kv hK=>?_); simp [go_sem]; refine hK _ _ ?_; clear hK; clear Kv)))
      exact ⟨rfl, rfl⟩
    | cons c r =>
      have hc : (c :: r).getD 0 0 = c := rfl
      repeat (any_goals (first
      | (with_reducible first|refine pureM_in ?_|((refine idGd ?_); refine zA ?_)|((refine idPick ?_); refine yB ?_)|((refine idCond ?_); refine yP (fun hg=>?_) fun hg=>?_))
      | ((with_reducible refine idO ?_); (with_reducible refine oM_gen fun Kv hK=>?_); simp [go_sem]; refine hK _ _ ?_; clear hK; clear Kv)))
      · refine ⟨rfl, ?_⟩
        have : c = 45 := UInt8.toNat_inj.1 (by simp; omega)
        rw [this]; rfl
      · refine ⟨rfl, ?_⟩
        have : c ≠ 45 := fun e => by subst e; simp at hg
        simp [sgn, this]
      all_goals (simp only [List.length_cons] at *; omega)
  rintro _ _ _ ⟨rfl, rfl⟩
  simp only [List.getD_cons_zero]
  obtain ⟨a, ha⟩ : ∃ a, a = sgn s := ⟨_, rfl⟩
  rw [← ha] at hsg ⊢
  refine ⟨fun l w' => SameW w w' ∧ ∃ (n : Int) (i : Nat), l = [.int .i64 0, .bool false, .int .i64 n, .int .i64 i] ∧ a ≤ i ∧ (i ≤ s.length ∨ i = a) ∧ InR n ∧ ∀ m, InR m → s = itoa m → n = -(numL ((s.drop a).take (i - a)) : Int), fun l _ => s.length - (match l with | [_, _, _, .int _ n] => n.toNat | _ => 0), ⟨rfl, 0, a, rfl, by omega, .inr rfl, ⟨by omega, by omega⟩, fun m _ _ => by simp [numL]⟩, ?_⟩
  rintro _ _ _ ⟨rfl, n, i, rfl, hai, hil, hn, hinv⟩
  simp only [List.getD_cons_zero, List.getD_cons_succ]
  by_cases hlt : i < s.length
  · obtain ⟨c, hc⟩ : ∃ c, c = s[i] := ⟨_, rfl⟩
    have hbyte : s[i]?.getD 0 = c := by rw [List.getElem?_eq_getElem hlt, hc]; rfl
    have hfacts : ∀ m, InR m → s = itoa m → 48 ≤ c.toNat ∧ c.toNat ≤ 57 ∧ i ≤ 20 := by
      intro m hm e
      have h1 := itoa_len m hm
      rw [← e] at h1
      have h2 : c ∈ decDigits m.natAbs := by
        rw [← itoa_drop m, ← e, ← ha, hc]
        rw [List.mem_iff_getElem]
        exact ⟨i - a, by rw [List.length_drop]; omega, by rw [List.getElem_drop]; congr 1; omega⟩
      have h3 := decDigits_digit _ c h2
      omega
    have hstep : ∀ m, InR m → s = itoa m → ((s.drop a).take (i + 1 - a)) = ((s.drop a).take (i - a)) ++ [c] := by
      intro m hm e
      have : i + 1 - a = (i - a) + 1 := by omega
      rw [this, List.take_add_one, List.getElem?_drop]
      have e2 : a + (i - a) = i := by omega
      rw [e2, List.getElem?_eq_getElem hlt, ← hc]; rfl
    obtain ⟨hn1, hn2⟩ := hn
    have bad : (∀ m, InR m → s ≠ itoa m) → K (.tuple #[.int .i64 0, .bool false]) w := by
      intro h
      have h1 := canon_none s h
      have := k 0 w (Below.refl _ _) (fun n e => by rw [h1] at e; cases e)
      rw [h1] at this
      exact this
    repeat (any_goals (first
    | (with_reducible first|refine pureM_in ?_|((refine idGd ?_); first|refine zD ?_|((refine idGdD ?_); first|refine zI ?_|refine zJ ?_|refine zK (fun hg=>?_) fun hg=>?_))|((refine idPick ?_); first|refine yB ?_|refine yD ?_|refine yE ?_)|((refine idCond ?_); first|refine yL ?_|refine yN ?_|refine yP (fun hg=>?_) fun hg=>?_))
    | ((with_reducible refine idO ?_); (with_reducible refine oM_gen fun Kv hK=>?_); simp [go_sem, hbyte]; (try simp (disch := omega) only [wrapI64, wrapU8, wrapU32, wrapU64]); (first|refine hK _ _ ?_|refine And.intro (by omega) (hK _ _ ?_)); clear hK; clear Kv)))
    · exact bad (fun m hm e => by have := hfacts m hm e; omega)
    · exact bad (fun m hm e => by have := hfacts m hm e; omega)
    · exact bad (fun m hm e => by have := hfacts m hm e; omega)
    · refine ⟨⟨rfl, _, i + 1, rfl, by omega, .inl hlt, wrap_range _, fun m hm e => ?_⟩, by simp; omega⟩
      have hnum := hinv m hm e
      have hst := hstep m hm e
      have hmono := numL_mono (s.drop a) (i + 1 - a)
      have htot : numL (s.drop a) = m.natAbs := by
        have h0 : s.drop (sgn s) = (itoa m).drop (sgn (itoa m)) := by rw [← e]
        rw [ha, h0, itoa_drop m, numL_dec]
      rw [hst, numL_snoc] at hmono ⊢
      obtain ⟨hm1, hm2⟩ := hm
      rw [htot] at hmono
      generalize numL ((s.drop a).take (i - a)) = A at *
      rw [hnum]
      have hc1 : ((c.toNat - 48 : Nat) : Int) = (c.toNat : Int) - 48 := by omega
      rw [wrapI64 (10 * -(A : Int)) (by omega) (by omega), wrapI64 _ (by omega) (by omega)]
      omega
  · have hfin : ∀ m, InR m → s = itoa m → n = -(m.natAbs : Int) := by
      intro m hm e
      have := hinv m hm e
      have htk : (s.drop a).take (i - a) = s.drop a := List.take_of_length_le (by rw [List.length_drop]; omega)
      have htot : numL (s.drop a) = m.natAbs := by
        have h0 : s.drop (sgn s) = (itoa m).drop (sgn (itoa m)) := by rw [← e]
        rw [ha, h0, itoa_drop m, numL_dec]
      rw [htk, htot] at this
      exact this
    repeat (any_goals (first
    | (with_reducible ((refine idCond ?_); refine yO ?_))
    | ((with_reducible refine idO ?_); (with_reducible refine oM_gen fun Kv hK=>?_); simp [go_sem]; refine hK _ _ ?_; clear hK; clear Kv)))
    refine ⟨fun l w' => SameW w w' ∧ ∃ v, l = [.int .i64 v] ∧ InR v ∧ ∀ m, InR m → s = itoa m → v = m, ?_, ?_⟩
    · have hsm : ∀ m, s = itoa m → (a = 1 ↔ m < 0) := by
        intro m e
        rw [ha, ← itoa_head m, ← e]
        unfold sgn
        split <;> simp_all
      repeat (any_goals (first
      | (with_reducible ((refine idCond ?_); refine yP (fun hg=>?_) fun hg=>?_))
      | ((with_reducible refine idO ?_); (with_reducible refine oM_gen fun Kv hK=>?_); simp [go_sem]; refine hK _ _ ?_; clear hK; clear Kv)))
      · refine ⟨rfl, _, rfl, wrap_range _, fun m hm e => ?_⟩
        have h1 := hfin m hm e
        have h2 := hsm m e
        obtain ⟨hm1, hm2⟩ := hm
        rw [wrapI64 _ (by omega) (by omega)]
        omega
      · refine ⟨rfl, _, rfl, hn, fun m hm e => ?_⟩
        have h1 := hfin m hm e
        have h2 := hsm m e
        omega
    · rintro _ _ _ ⟨rfl, v, rfl, hv, hvm⟩
      simp only [List.getD_cons_zero]
      refine qInt_ok v hv ?_
      intro w1 hb
      have hcan : (canon s).isSome = decide (encInt v = s ++ [59]) := by
        rw [Bool.eq_iff_iff, decide_eq_true_eq]
        unfold encInt
        rw [List.append_left_inj]
        constructor
        · intro h
          obtain ⟨m, hm⟩ := Option.isSome_iff_exists.1 h
          obtain ⟨h1, h2⟩ := canon_some s m hm
          rw [hvm m h2 h1, ← h1]
        · intro h
          rw [← h, canon_itoa v hv]; rfl
      repeat (any_goals ((with_reducible refine idO ?_); (with_reducible refine oM_gen fun Kv hK=>?_); simp [go_sem]; (first|refine hK _ _ ?_|refine And.intro (by omega) (hK _ _ ?_)); clear hK; clear Kv))
      have := k v w1 hb (fun m e => by
        obtain ⟨h1, h2⟩ := canon_some s m e
        exact hvm m h2 h1)
      rw [hcan] at this
      exact this
end Go.Proofs.Cd
namespace Go.Proofs.Cd
open Go Go.Sh Go.RowKit Go.Lib CodeSpec
set_option linter.unusedSimpArgs false
set_option maxRecDepth 10000
theorem qfail_ok (b : Nat) (r : Rd) {K : Value → World → Prop} {w : World} (hr : IsQd w b r) (k : ∀ w', IsQd w' b failed → w.grownBy w' (some b) → K (.int .i64 0) w') : callM Tryz.prog 77 #[.pointer (some ⟨b, 0, none⟩)] K w := by
  apply sh_77_ok
  unfold sh_77
  have h0 := hr.c0
  have f0 := hr.fz 0
  have hr1 := hr.set0 []
  have f1 := hr1.fz 1
  have h1 := hr1.c1
  repeat (any_goals ((with_reducible refine idO ?_); (with_reducible refine oM_gen fun Kv hK=>?_); simp [go_sem, h0, f0, h1, f1]; refine hK _ _ ?_; clear hK; clear Kv))
  exact k _ (hr1.set1 true) (grownBy_trans (grown_set _ _ _ _) (grown_set _ _ _ _))
theorem twl_stop (l : List UInt8) (c : UInt8) (n : Nat) (hn : n ≤ l.length) (h1 : ∀ j, j < n → l[j]?.getD 0 ≠ c) (h2 : n < l.length → l[n]?.getD 0 = c) : l.takeWhile (· != c) = l.take n := by
  induction l generalizing n with
  | nil => simp at hn; subst hn; rfl
  | cons x l ih =>
    cases n with
    | zero =>
      have := h2 (by simp)
      simp at this
      simp [this]
    | succ n =>
      have h0 := h1 0 (by omega)
      simp at h0
      have := ih n (by simpa using hn) (fun j hj => by have := h1 (j + 1) (by omega); simpa using this) (fun h => by have := h2 (by simpa using h); simpa using this)
      simp [h0, this]
def minI : Int := -9223372036854775808
theorem rdNumber_zero (r : Rd) (e : UInt8) : rdNumber r e 0 = if (rdNumber r e minI).1 < 0 then (0, failed) else rdNumber r e minI := by
  unfold rdNumber
  split
  · cases hc : canon ((r.rest.take 21).takeWhile (· != e)) with
    | none => simp
    | some n =>
      have h := canon_some _ _ hc
      obtain ⟨h1, h2⟩ := h.2
      simp only
      rw [if_neg (show ¬ n < minI by unfold minI; omega)]
  · simp
set_option maxHeartbeats 1600000 in
theorem ahead_ok (b : Nat) (r : Rd) (e : UInt8) {K : Value → World → Prop} {w : World} (hlen : r.rest.length < 2^60) (hr : IsQd w b r) (k : ∀ w', IsQd w' b (rdNumber r e minI).2 → w.grownBy w' (some b) → K (.int .i64 (rdNumber r e minI).1) w') : callM Tryz.prog 88 #[.pointer (some ⟨b, 0, none⟩), .int .u8 e.toNat] K w := by
  apply sh_88_ok
  unfold sh_88
  have h0 := hr.c0
  have f0 := hr.fz 0
  refine ⟨fun l w' => w = w' ∧ ∃ (n : Nat), l = [.int .i64 n] ∧ n ≤ r.rest.length ∧ n ≤ 21 ∧ ∀ j, j < n → r.rest[j]?.getD 0 ≠ e, fun l _ => r.rest.length - (match l with | [.int _ n] => n.toNat | _ => 0), ⟨rfl, 0, rfl, by omega, by omega, fun j hj => by omega⟩, ?_⟩
  rintro _ _ _ ⟨rfl, n, rfl, hn, hn21, hne⟩
  simp only [List.getD_cons_zero]
  obtain ⟨q, hq⟩ : ∃ q, q = r.rest.take 21 := ⟨_, rfl⟩
  have hql : q.length = min 21 r.rest.length := by rw [hq, List.length_take]
  have hqj : ∀ j, j < 21 → q[j]? = r.rest[j]? := fun j hj => by rw [hq, List.getElem?_take_of_lt hj]
  have hnum : rdNumber r e minI = if (q.takeWhile (· != e)).length < q.length then (match canon (q.takeWhile (· != e)) with | some n => if n < minI then (0, failed) else (n, ⟨r.rest.drop ((q.takeWhile (· != e)).length + 1), r.bad⟩) | none => (0, failed)) else (0, failed) := by rw [hq]; rfl
  have fin : ∀ w2, Below w.heap.size w w2 → rdNumber r e minI = (0, failed) → callM Tryz.prog 77 #[.pointer (some ⟨b, 0, none⟩)] (fun v w => K v w) w2 := by
    intro w2 hb2 hn
    refine qfail_ok b _ (hr.below hb2 hr.lt) ?_
    intro w3 hr3 hg3
    have := k w3 (by rw [hn]; exact hr3) (grownBy_trans (grown_of_below hb2 _) hg3)
    rw [hn] at this
    exact this
  obtain ⟨c, hc⟩ : ∃ c, c = r.rest[n]?.getD 0 := ⟨_, rfl⟩
  have hall : (n = r.rest.length ∨ n = 21) → (q.takeWhile (· != e)) = q := by
    intro h
    have h1 : q.takeWhile (· != e) = q.take q.length := twl_stop q e q.length (Nat.le_refl _) (fun j hj => by rw [hqj j (by omega)]; exact hne j (by omega)) (fun h => by omega)
    rw [h1, List.take_length]
  have hpre : n < 21 → n < r.rest.length → c = e → q.takeWhile (· != e) = r.rest.take n := by
    intro h21 hlt hce
    have h1 : q.takeWhile (· != e) = q.take n := twl_stop q e n (by omega) (fun j hj => by rw [hqj j (by omega)]; exact hne j hj) (fun h => by rw [hqj n h21, ← hc]; exact hce)
    rw [h1, hq, List.take_take, Nat.min_eq_left (by omega)]
  have hfull : (n = r.rest.length ∨ n = 21) → rdNumber r e minI = (0, failed) := by
    intro h
    rw [hnum, hall h, if_neg (by omega)]
  have hcanon : ∀ p : List UInt8, p.length = 21 → canon p = none := by
    intro p hp
    cases hcp : canon p with
    | none => rfl
    | some m =>
      obtain ⟨h1, h2⟩ := canon_some _ _ hcp
      have := itoa_len m h2
      rw [← h1] at this
      omega
  have hlast : ∀ v w1, Below w.heap.size w w1 → n < r.rest.length → c = e → (∀ m, canon (r.rest.take n) = some m → v = m) →
      condM (.bool (!(canon (r.rest.take n)).isSome)) (callM Tryz.prog 77 #[.pointer (some ⟨b, 0, none⟩)] (fun v w => K v w) w1)
        (∀ w2, IsQd w2 b ⟨r.rest.drop (n + 1), r.bad⟩ → w1.grownBy w2 (some b) → K (.int .i64 v) w2) := by
    intro v w1 hb1 hlt hce hv
    have hlen : (r.rest.take n).length = n := by rw [List.length_take]; omega
    cases hcan : canon (r.rest.take n) with
    | none =>
      refine condM_b (fun _ => ?_) (fun h => by cases h)
      refine fin _ hb1 ?_
      by_cases h21 : n < 21
      · rw [hnum, hpre h21 hlt hce, if_pos (by omega), hcan]
      · exact hfull (.inr (by omega))
    | some m =>
      refine condM_b (fun h => by cases h) (fun _ => ?_)
      have h21 : n < 21 := by
        rcases Nat.lt_or_ge n 21 with h | h
        · exact h
        · have := hcanon (r.rest.take n) (by omega)
          rw [this] at hcan; cases hcan
      have hm := canon_some _ _ hcan
      obtain ⟨hm1, hm2⟩ := hm.2
      have hv := hv m hcan
      rw [hpre h21 hlt hce, if_pos (by omega), hcan, hlen] at hnum
      simp only at hnum
      rw [if_neg (show ¬ m < minI by unfold minI; omega)] at hnum
      intro w2 hr2 hg2
      have := k w2 (by rw [hnum]; exact hr2) (grownBy_trans (grown_of_below hb1 _) hg2)
      rw [hnum] at this
      rw [hv]
      exact this
  have hcn : r.rest[n]?.getD 0 = c := hc.symm
  clear hc
  by_cases hlt : n < r.rest.length
  · by_cases hce : c = e
    · have hce' : (c.toNat : Int) = e.toNat := by rw [hce]
      have rest : ∀ (F : Value → World → Prop), (∀ v w1, Below w.heap.size w w1 → (∀ m, canon (r.rest.take n) = some m → v = m) → F (.tuple #[.int .i64 v, .bool (canon (r.rest.take n)).isSome]) w1) → callM Tryz.prog 94 #[.string ⟨(r.rest.take n).toArray⟩] F w :=
        fun F h => backInt_ok (r.rest.take n) (by rw [List.length_take]; omega) (fun v w' hb hv => h v w' hb hv)
      have tail : ∀ v w1, Below w.heap.size w w1 → (∀ m, canon (r.rest.take n) = some m → v = m) → w1.cell? ⟨b, 0, none⟩ = some (.string ⟨r.rest.toArray⟩) ∧ w1.frozen? ⟨b, 0, none⟩ = false := by
        intro v w1 hb1 _
        have hr1 := hr.below hb1 hr.lt
        exact ⟨hr1.c0, hr1.fz 0⟩
      by_cases h21 : n < 21
      all_goals
        repeat (any_goals (first
        | (with_reducible first|refine pureM_in ?_|((refine idGd ?_); ((refine idGdD ?_); first|refine zF ?_|refine zG ?_))|((refine idPick ?_); first|refine yD ?_|refine yE ?_)|((refine idCond ?_); first|refine yM ?_|refine yO ?_|refine yR ?_))
        | ((with_reducible refine idO ?_); (with_reducible refine oM_gen fun Kv hK=>?_); simp [go_sem, h0, hcn]; (first|refine hK _ _ ?_|refine And.intro (by omega) (hK _ _ ?_)); clear hK; clear Kv)))
        refine rest _ (fun v w1 hb1 hv => ?_)
        obtain ⟨h1, f1⟩ := tail v w1 hb1 hv
        have hr1 := hr.below hb1 hr.lt
        have hl := hlast v w1 hb1 hlt hce hv
        generalize (canon (r.rest.take n)).isSome = t at hl ⊢
        obtain ⟨u, hu, ht, hf⟩ := hl
        cases hu
        cases t with
        | true =>
          repeat (any_goals (first
          | (with_reducible ((refine idCond ?_); refine yM ?_))
          | ((with_reducible refine idO ?_); (with_reducible refine oM_gen fun Kv hK=>?_); simp [go_sem, h1, f1]; (try simp (disch := omega) only [wrapI64, wrapU8, wrapU32, wrapU64]); (first|refine hK _ _ ?_|refine And.intro (by omega) (hK _ _ ?_)); clear hK; clear Kv)))
          exact hf rfl _ (hr1.set0 _) (grown_set _ _ _ _)
        | false =>
          repeat (any_goals (first
          | (with_reducible ((refine idCond ?_); refine yL ?_))
          | ((with_reducible refine idO ?_); (with_reducible refine oM_gen fun Kv hK=>?_); simp [go_sem]; refine hK _ _ ?_; clear hK; clear Kv)))
          exact ht rfl
    · have hce' : ¬ (c.toNat : Int) = e.toNat := fun h => hce (UInt8.toNat_inj.1 (by omega))
      by_cases h21 : n < 21
      · repeat (any_goals (first
        | (with_reducible first|refine pureM_in ?_|((refine idGd ?_); ((refine idGdD ?_); refine zF ?_))|((refine idPick ?_); refine yD ?_)|((refine idCond ?_); refine yQ ?_))
        | ((with_reducible refine idO ?_); (with_reducible refine oM_gen fun Kv hK=>?_); simp [go_sem, h0, hcn]; (try simp (disch := omega) only [wrapI64, wrapU8, wrapU32, wrapU64]); (first|refine hK _ _ ?_|refine And.intro (by omega) (hK _ _ ?_)); clear hK; clear Kv)))
        refine ⟨⟨rfl, n + 1, rfl, by omega, by omega, fun j hj => ?_⟩, by simp; omega⟩
        by_cases e2 : j = n
        · rw [e2, hcn]; exact hce
        · exact hne j (by omega)
      · repeat (any_goals (first
        | (with_reducible refine fin _ (Below.refl _ _) (hfull (.inr (by omega))))
        | (with_reducible first|refine pureM_in ?_|((refine idGd ?_); ((refine idGdD ?_); first|refine zF ?_|refine zG ?_))|((refine idPick ?_); first|refine yD ?_|refine yE ?_)|((refine idCond ?_); first|refine yM ?_|refine yO ?_|refine yQ ?_))
        | ((with_reducible refine idO ?_); (with_reducible refine oM_gen fun Kv hK=>?_); simp [go_sem, h0, hcn]; (first|refine hK _ _ ?_|refine And.intro (by omega) (hK _ _ ?_)); clear hK; clear Kv)))
  · repeat (any_goals (first
    | (with_reducible refine fin _ (Below.refl _ _) (hfull (.inl (by omega))))
    | (with_reducible first|((refine idGd ?_); first|refine zB ?_|((refine idGdD ?_); refine zG ?_))|((refine idPick ?_); first|refine yC ?_|refine yE ?_)|((refine idCond ?_); first|refine yM ?_|refine yN ?_))
    | ((with_reducible refine idO ?_); (with_reducible refine oM_gen fun Kv hK=>?_); simp [go_sem, h0]; refine hK _ _ ?_; clear hK; clear Kv)))
theorem qnumber_ok (b : Nat) (r : Rd) (e : UInt8) {K : Value → World → Prop} {w : World} (hlen : r.rest.length < 2^60) (hr : IsQd w b r) (k : ∀ w', IsQd w' b (rdNumber r e 0).2 → w.grownBy w' (some b) → K (.int .i64 (rdNumber r e 0).1) w') : callM Tryz.prog 76 #[.pointer (some ⟨b, 0, none⟩), .int .u8 e.toNat] K w := by
  apply sh_76_ok
  unfold sh_76
  refine ahead_ok b r e hlen hr ?_
  intro w1 hr1 hg1
  rw [rdNumber_zero] at k
  generalize rdNumber r e minI = x at *
  obtain ⟨n, r1⟩ := x
  simp only at *
  by_cases hn : n < 0
  · rw [if_pos hn] at k
    repeat (any_goals (first
    | (with_reducible ((refine idCond ?_); refine yN ?_))
    | ((with_reducible refine idO ?_); (with_reducible refine oM_gen fun Kv hK=>?_); simp [go_sem]; refine hK _ _ ?_; clear hK; clear Kv)))
    refine qfail_ok b _ hr1 ?_
    intro w2 hr2 hg2
    exact k w2 hr2 (grownBy_trans hg1 hg2)
  · rw [if_neg hn] at k
    repeat (any_goals (first
    | (with_reducible ((refine idCond ?_); refine yO ?_))
    | ((with_reducible refine idO ?_); (with_reducible refine oM_gen fun Kv hK=>?_); simp [go_sem]; refine hK _ _ ?_; clear hK; clear Kv)))
    exact k w1 hr1 hg1
end Go.Proofs.Cd
namespace Go.Proofs.Cd
open Go Go.Sh Go.RowKit Go.Lib CodeSpec Go.Proofs
set_option linter.unusedSimpArgs false
set_option maxRecDepth 10000
set_option maxHeartbeats 1600000 in
theorem sameTexts_ok (xs ys : List (List UInt8)) (v u : Value) {K : Value → World → Prop} {w : World} (hv : RowOf strV w v xs) (hu : RowOf strV w u ys) (hx : xs.length < 2^60) (hy : ys.length < 2^60) (k : ∀ w', Below w.heap.size w w' → K (.bool (decide (xs = ys))) w') : callM Tryz.prog 24 #[v, u] K w := by
  apply sh_24_ok
  unfold sh_24
  obtain ⟨a, c, rfl, hv⟩ := hv
  obtain ⟨a', c', rfl, hu⟩ := hu
  have kno : ∀ w', Below w.heap.size w w' → xs ≠ ys → K (.bool false) w' := fun w' hb hne => K_eq (k w' hb) (by rw [decide_eq_false hne])
  repeat (any_goals (first
  | (with_reducible ((refine idCond ?_); refine yS (fun hg=>?_) fun hg=>?_))
  | ((with_reducible refine idO ?_); (with_reducible refine oM_gen fun Kv hK=>?_); simp [go_sem]; refine hK _ _ ?_; clear hK; clear Kv)))
  · refine ⟨fun l w' => ∃ k : Nat, l = [.bool false, .int .i64 k] ∧ k ≤ xs.length ∧ Below w.heap.size w w' ∧ xs.take k = ys.take k, fun l _ => xs.length - (match l with | [_, .int _ n] => n.toNat | _ => 0), ⟨0, rfl, by omega, Below.refl _ _, by simp⟩, ?_⟩
    rintro _ _ w1 ⟨j, rfl, hj, hb, hpre⟩
    simp only [List.getD_cons_zero, List.getD_cons_succ]
    have hlm : xs.length = ys.length := by omega
    by_cases hlt : j < xs.length
    · have hltm : j < ys.length := by omega
      rcases hv with rfl | ⟨b, o, rfl, hbw, hcells⟩
      · simp at hlt
      rcases hu with rfl | ⟨b', o', rfl, hbw', hcells'⟩
      · simp at hltm
      have h0 := hcells j hlt
      have g0 := hcells' j hltm
      rw [← hb.cell hbw] at h0
      rw [← hb.cell hbw'] at g0
      simp only [strV] at h0 g0
      obtain ⟨w2, hw2⟩ : ∃ w2, w2 = { w1 with drawn := w1.drawn + 1 } := ⟨_, rfl⟩
      have hce : ∀ p, w2.cell? p = w1.cell? p := by rw [hw2]; exact fun _ => rfl
      rw [← hce] at h0 g0
      have d1 := idx23 (b := b) (o := o) (c := c) hlt w2
      have e1 := idx23 (b := b') (o := o') (c := c') hltm w2
      have hb2 : Below w.heap.size w w2 := by rw [hw2]; exact hb.drew
      repeat (any_goals (first
      | (with_reducible ((refine idCond ?_); refine yN ?_))
      | ((with_reducible refine idO ?_); (with_reducible refine oM_gen fun Kv hK=>?_); simp [go_sem]; refine hK _ _ ?_; clear hK; clear Kv)))
      refine quietM_one ?_
      rw [← hw2]
      repeat (any_goals (first
      | (rw [oM_indexAddr, d1, rM_ok]) | (rw [oM_indexAddr, e1, rM_ok])
      | (with_reducible first|refine And.intro (Eq.refl (α := World) _) ?_|refine forall_one ?_|((refine idCond ?_); refine yS (fun hg=>?_) fun hg=>?_))
      | ((with_reducible refine idOQ ?_); ((with_reducible refine oQ_one ?_ ?_); exact ⟨_, rfl⟩))
      | ((with_reducible refine idO ?_); (with_reducible refine oM_gen fun Kv hK=>?_); simp [go_sem, h0, g0]; (try simp (disch := omega) only [wrapI64, wrapU8, wrapU32, wrapU64]); refine hK _ _ ?_; clear hK; clear Kv)))
      all_goals first
        | (refine kno _ hb2 (fun e => ?_)
           have e3 := congrArg (fun l => l[j]?) e
           simp only [List.getElem?_eq_getElem hlt, List.getElem?_eq_getElem hltm, Option.some.injEq] at e3
           exact hg e3)
        | (refine ⟨⟨j + 1, rfl, hlt, hb2, ?_⟩, by simp; omega⟩
           rw [List.take_add_one, List.take_add_one, List.getElem?_eq_getElem hlt, List.getElem?_eq_getElem hltm, hpre]
           congr 2; rw [hg])
    · obtain rfl : j = xs.length := by omega
      rw [List.take_length, hlm, List.take_length] at hpre
      repeat (any_goals (first
      | (with_reducible ((refine idCond ?_); refine yM ?_))
      | ((with_reducible refine idO ?_); (with_reducible refine oM_gen fun Kv hK=>?_); simp [go_sem]; refine hK _ _ ?_; clear hK; clear Kv)))
      exact K_eq (k w1 hb) (by rw [decide_eq_true hpre])
  · exact kno w (Below.refl _ _) (fun e => by have := congrArg List.length e; omega)
end Go.Proofs.Cd
namespace Go.Proofs.Cd
open Go Go.Sh Go.RowKit Go.Lib CodeSpec
set_option linter.unusedSimpArgs false
set_option maxRecDepth 10000
theorem qnum_ok (b : Nat) (r : Rd) {K : Value → World → Prop} {w : World} (hlen : r.rest.length < 2^60) (hr : IsQd w b r) (k : ∀ w', IsQd w' b (rdNum r).2 → w.grownBy w' (some b) → K (.int .i64 (rdNum r).1) w') : callM Tryz.prog 60 #[.pointer (some ⟨b, 0, none⟩)] K w := by
  apply sh_60_ok
  unfold sh_60
  exact qnumber_ok b r 59 hlen hr k
theorem qclose_ok (b : Nat) (r : Rd) (c : UInt8) {K : Value → World → Prop} {w : World} (hlen : r.rest.length < 2^60) (hr : IsQd w b r) (k : ∀ w', IsQd w' b (rdClose r c) → w.grownBy w' (some b) → K (.bool (decide (r.rest.head? = some c))) w') : callM Tryz.prog 78 #[.pointer (some ⟨b, 0, none⟩), .int .u8 c.toNat] K w := by
  apply sh_78_ok
  unfold sh_78
  have h0 := hr.c0
  have f0 := hr.fz 0
  cases hrest : r.rest with
  | nil =>
    rw [hrest] at h0 k hlen
    repeat (any_goals (first
    | (with_reducible ((refine idCond ?_); refine yL ?_))
    | ((with_reducible refine idO ?_); (with_reducible refine oM_gen fun Kv hK=>?_); simp [go_sem, h0]; refine hK _ _ ?_; clear hK; clear Kv)))
    refine qfail_ok b r hr ?_
    intro w1 hr1 hg1
    have e : rdClose r c = failed := by unfold rdClose; rw [hrest]
    exact K_eq (k w1 (by rw [e]; exact hr1) hg1) (by simp)
  | cons x t =>
    rw [hrest] at h0 k hlen
    simp only [List.length_cons] at hlen
    have hx : (x :: t)[0]?.getD 0 = x := rfl
    have htl : List.take t.length t = t := List.take_length
    by_cases hc : x = c
    · have hc' : (x.toNat : Int) = c.toNat := by rw [hc]
      repeat (any_goals (first
      | (with_reducible ((refine idCond ?_); first|refine yO ?_|refine yR ?_))
      | ((with_reducible refine idO ?_); (with_reducible refine oM_gen fun Kv hK=>?_); simp [go_sem, h0, f0, hx, htl]; (first|refine hK _ _ ?_|refine And.intro (by omega) (hK _ _ ?_)); clear hK; clear Kv)))
      have e : rdClose r c = ⟨t, r.bad⟩ := by unfold rdClose; rw [hrest]; simp [hc]
      exact K_eq (k _ (by rw [e]; exact hr.set0 t) (grown_set _ _ _ _)) (by simp [hc])
    · have hc' : ¬ (x.toNat : Int) = c.toNat := fun h => hc (UInt8.toNat_inj.1 (by omega))
      repeat (any_goals (first
      | (with_reducible ((refine idCond ?_); first|refine yO ?_|refine yQ ?_))
      | ((with_reducible refine idO ?_); (with_reducible refine oM_gen fun Kv hK=>?_); simp [go_sem, h0, f0, hx, htl]; refine hK _ _ ?_; clear hK; clear Kv)))
      refine qfail_ok b r hr ?_
      intro w1 hr1 hg1
      have e : rdClose r c = failed := by unfold rdClose; rw [hrest]; simp [hc]
      exact K_eq (k w1 (by rw [e]; exact hr1) hg1) (by simp [hc])
theorem rdClose_eq (r : Rd) (c : UInt8) : rdClose r c = if r.rest.head? = some c then ⟨r.rest.drop 1, r.bad⟩ else failed := by
  unfold rdClose
  cases r.rest with
  | nil => simp
  | cons x t => simp
theorem qtext_ok (b : Nat) (r : Rd) {K : Value → World → Prop} {w : World} (hlen : r.rest.length < 2^60) (hok : r.ok) (hr : IsQd w b r) (k : ∀ w', IsQd w' b (rdText r).2 → w.grownBy w' (some b) → K (.string ⟨(rdText r).1.toArray⟩) w') : callM Tryz.prog 59 #[.pointer (some ⟨b, 0, none⟩)] K w := by
  apply sh_59_ok
  unfold sh_59
  refine qnumber_ok b r 58 hlen hr ?_
  intro w1 hr1 hg1
  have hle := rest_le r 58 0
  have hok1 := rdNumber_ok r hok 58 0
  have h0n : 0 ≤ (rdNumber r 58 0).1 := by
    rcases rdNumber_some r 58 0 with h | ⟨n, t, h, _, _, h3⟩
    · rw [h]; exact Int.le_refl 0
    · rw [h]; exact h3
  have hnum : rdText r = if ((rdNumber r 58 0).2.rest.length : Int) < (rdNumber r 58 0).1 then ([], failed)
      else if (rdClose ⟨(rdNumber r 58 0).2.rest.drop (rdNumber r 58 0).1.toNat, (rdNumber r 58 0).2.bad⟩ 44).bad then ([], rdClose ⟨(rdNumber r 58 0).2.rest.drop (rdNumber r 58 0).1.toNat, (rdNumber r 58 0).2.bad⟩ 44)
      else ((rdNumber r 58 0).2.rest.take (rdNumber r 58 0).1.toNat, rdClose ⟨(rdNumber r 58 0).2.rest.drop (rdNumber r 58 0).1.toNat, (rdNumber r 58 0).2.bad⟩ 44) := rfl
  generalize (rdNumber r 58 0).2 = r1 at *
  generalize (rdNumber r 58 0).1 = n at *
  have h0 := hr1.c0
  have h1 := hr1.c1
  have f0 := hr1.fz 0
  have fin : rdText r = ([], failed) → callM Tryz.prog 77 #[.pointer (some ⟨b, 0, none⟩)] (fun _ w => K (.string ⟨#[]⟩) w) w1 := by
    intro e
    refine qfail_ok b _ hr1 ?_
    intro w2 hr2 hg2
    exact K_eq (k w2 (by rw [e]; exact hr2) (grownBy_trans hg1 hg2)) (by rw [e])
  cases hbad : r1.bad with
  | true =>
    rw [hbad] at h1
    have he : rdText r = ([], failed) := by
      have := hok1 hbad
      rw [hnum, this, hbad]
      simp [rdClose, failed]
    repeat (any_goals (first
    | (with_reducible refine fin he)
    | (with_reducible first|((refine idGd ?_); refine zD ?_)|((refine idPick ?_); refine yB ?_)|((refine idCond ?_); refine yL ?_))
    | ((with_reducible refine idO ?_); (with_reducible refine oM_gen fun Kv hK=>?_); simp [go_sem, h0, h1]; refine hK _ _ ?_; clear hK; clear Kv)))
  | false =>
    rw [hbad] at h1 hnum
    by_cases hlt : n < (r1.rest.length : Int)
    · rw [if_neg (by omega)] at hnum
      have htl : List.take r1.rest.length r1.rest = r1.rest := List.take_length
      repeat (any_goals (first
      | (with_reducible first|refine pureM_in ?_|((refine idGd ?_); refine zC ?_)|((refine idPick ?_); refine yC ?_)|((refine idCond ?_); refine yO ?_))
      | ((with_reducible refine idO ?_); (with_reducible refine oM_gen fun Kv hK=>?_); simp [go_sem, h0, h1, f0, htl]; (first|refine hK _ _ ?_|refine And.intro (by omega) (hK _ _ ?_)); clear hK; clear Kv)))
      refine qclose_ok b _ 44 (by simp only [List.length_drop]; omega) (hr1.set0 _) ?_
      intro w2 hr2 hg2
      have hg := grownBy_trans hg1 (grownBy_trans (grown_set _ _ _ _) hg2)
      rw [hbad] at hr2
      have hce := rdClose_eq ⟨r1.rest.drop n.toNat, false⟩ 44
      by_cases hh : (r1.rest.drop n.toNat).head? = some 44
      · rw [if_pos hh] at hce
        rw [hce] at hnum hr2
        rw [if_neg (by simp)] at hnum
        simp only [hh, decide_true]
        repeat (any_goals (first
        | (with_reducible ((refine idCond ?_); refine yM ?_))
        | ((with_reducible refine idO ?_); (with_reducible refine oM_gen fun Kv hK=>?_); simp [go_sem]; refine hK _ _ ?_; clear hK; clear Kv)))
        exact K_eq (k w2 (by rw [hnum]; exact hr2) hg) (by rw [hnum])
      · rw [if_neg hh] at hce
        rw [hce] at hnum hr2
        rw [if_pos failed_bad] at hnum
        simp only [hh, decide_false]
        repeat (any_goals (first
        | (with_reducible ((refine idCond ?_); refine yL ?_))
        | ((with_reducible refine idO ?_); (with_reducible refine oM_gen fun Kv hK=>?_); simp [go_sem]; refine hK _ _ ?_; clear hK; clear Kv)))
        exact K_eq (k w2 (by rw [hnum]; exact hr2) hg) (by rw [hnum])
    · have he : rdText r = ([], failed) := by
        rw [hnum]
        by_cases h2 : (r1.rest.length : Int) < n
        · rw [if_pos h2]
        · rw [if_neg h2]
          have : r1.rest.drop n.toNat = [] := by rw [List.drop_eq_nil_iff]; omega
          rw [this]
          rfl
      repeat (any_goals (first
      | (with_reducible refine fin he)
      | (with_reducible first|refine pureM_in ?_|((refine idGd ?_); refine zC ?_)|((refine idPick ?_); refine yC ?_)|((refine idCond ?_); refine yN ?_))
      | ((with_reducible refine idO ?_); (with_reducible refine oM_gen fun Kv hK=>?_); simp [go_sem, h0, h1]; refine hK _ _ ?_; clear hK; clear Kv)))
theorem qopen_ok (s : List UInt8) {K : Value → World → Prop} {w : World} (k : ∀ w', IsQd w' w.heap.size ⟨s, false⟩ → Below w.heap.size w w' → K (.pointer (some ⟨w.heap.size, 0, none⟩)) w') : callM Tryz.prog 57 #[.string ⟨s.toArray⟩] K w := by
  apply sh_57_ok
  unfold sh_57
  repeat (any_goals ((with_reducible refine idO ?_); (with_reducible refine oM_gen fun Kv hK=>?_); simp [go_sem]; refine hK _ _ ?_; clear hK; clear Kv))
  exact k _ (by unfold IsQd; exact heap_alloc_new _ _) ((Below.refl _ _).alloc (Nat.le_refl _) _)
theorem qleft_ok (b : Nat) (r : Rd) {K : Value → World → Prop} {w : World} (hr : IsQd w b r) (k : K (.int .i64 r.rest.length) w) : callM Tryz.prog 58 #[.pointer (some ⟨b, 0, none⟩)] K w := by
  apply sh_58_ok
  unfold sh_58
  have h0 := hr.c0
  repeat (any_goals ((with_reducible refine idO ?_); (with_reducible refine oM_gen fun Kv hK=>?_); simp [go_sem, h0]; refine hK _ _ ?_; clear hK; clear Kv))
  exact k
theorem IsQd.own {w2 w3 : World} {b B : Nat} {e : TypeId} {sz n : Nat} {v : Value} {xs : List Value} {r : Rd} (h : IsQd w2 b r) (hown : w2.ownsRow B e sz v n xs) (hB : b < B) (hg : w2.grownBy w3 v.ownBlock) : IsQd w3 b r := by
  have hlt := h.lt
  unfold IsQd at h ⊢
  rw [hg.block b hlt (fun e => by have := (hown.lt b e.symm).1; omega)]
  exact h
end Go.Proofs.Cd
namespace Go.Sh
open Go Go.RowKit
@[reducible] def ptr (g i : Nat) : Value := .pointer (some ⟨g, i, none⟩)
def Holds (w : World) (g : Nat) (T : TypeId) (vs : List Value) : Prop := w.heap[g]? = some (.cells vs.toArray T (0, 0))
theorem Holds.lt {w : World} {g : Nat} {T : TypeId} {vs : List Value} (h : Holds w g T vs) : g < w.heap.size := (Array.getElem?_eq_some_iff.1 h).1
theorem Holds.next {w w' : World} {g : Nat} {T : TypeId} {vs : List Value} (h : Holds w g T vs) (hb : Below w.heap.size w w') : Holds w' g T vs := by
  unfold Holds
  rw [hb.block g h.lt]; exact h
theorem Holds.cell {w : World} {g : Nat} {T : TypeId} {vs : List Value} (h : Holds w g T vs) (i : Nat) (hi : i < vs.length) : w.cell? ⟨g, i, none⟩ = some vs[i] := by
  unfold World.cell?
  rw [h]
  simp [hi]
section
variable {P : Program} {w : World} {K : Value → World → Prop} {T T' T0 : TypeId} {g n : Nat}
theorem arr_alloc {zs : List Value} (hA : ∀ w, (Instr.alloc T true (.tuple #[])).run P w = .ok (.pointer (some ⟨w.heap.size, 0, none⟩)) (w.alloc (.cells zs.toArray T)))
    (k : ∀ g W, Below w.heap.size w W → w.heap.size ≤ g → Holds W g T zs → K (ptr g 0) W) : oM P (.alloc T) T' [] K w := by
  rw [oM_alloc, hA]
  refine k _ _ ((Below.refl w.heap.size w).alloc (Nat.le_refl _) _) (Nat.le_refl _) ?_
  show (w.heap.push _)[w.heap.size]? = _
  simp
theorem arr_box {x : Value} {cs : List Value} (hx : x.cells = cs.toArray) (k : ∀ g W, Below w.heap.size w W → w.heap.size ≤ g → Holds W g T cs → K (ptr g 0) W) : oM P (.box T (.tmp 0)) T' [x] K w := by
  rw [oM_box]
  have e : (Instr.box T x).run P w = .ok (.pointer (some ⟨w.heap.size, 0, none⟩)) (w.alloc (.cells cs.toArray T)) := by
    rw [← hx]; rfl
  rw [e]
  refine k _ _ ((Below.refl w.heap.size w).alloc (Nat.le_refl _) _) (Nat.le_refl _) ?_
  show (w.heap.push _)[w.heap.size]? = _
  simp
theorem arr_storeRow {o m : Nat} {cur xs : List Value} {x : Value} (hT : ∀ w, (sizeOf T).run P w = .ok m w) (hx : x.cells = xs.toArray) (hl : xs.length = m) (h1 : ∀ u ∈ xs, u.oneCell' = true) (hg : Holds w g T0 cur) (hfit : o + m ≤ cur.length)
    (k : ∀ W, w.grownBy W (some g) → Holds W g T0 (cur.take o ++ xs ++ cur.drop (o + m)) → K undef W) : oM P (.store T (.tmp 0) (.tmp 1)) T' [ptr g o, x] K w := by
  have hst := run_storeCells_at P g o T0 xs 0 cur.toArray w hg (by simp; omega) h1
  rw [Nat.add_zero] at hst
  have e2 : x.cells.toList = xs := by rw [hx]
  have e3 : x.cells.size = m := by rw [hx]; simpa using hl
  have hrun : (Instr.storeAt T (ptr g o) x).run P w = .ok () (w.setRow g (cur.take o ++ xs ++ cur.drop (o + xs.length)).toArray) := by
    unfold Instr.storeAt storeVar
    rw [e2, e3]
    simp only [List.append_assoc] at hst ⊢
    simp [hT, go_sem]
    exact hst
  rw [oM_store, hrun]
  rw [hl] at *
  exact k _ (grown_setRow _ _ _) (setRow_heap w g _ _ T0 (0, 0) hg)
theorem arr_store {cur xs : List Value} {x : Value} (hT : ∀ w, (sizeOf T).run P w = .ok n w) (hx : x.cells = xs.toArray) (hl : xs.length = n) (h1 : ∀ u ∈ xs, u.oneCell' = true) (hg : Holds w g T0 cur) (hc : cur.length = n)
    (k : ∀ W, w.grownBy W (some g) → Holds W g T0 xs → K undef W) : oM P (.store T (.tmp 0) (.tmp 1)) T' [ptr g 0, x] K w := by
  refine arr_storeRow hT hx hl h1 hg (by omega) (fun W h2 h3 => k W h2 ?_)
  rw [Nat.zero_add, List.take_zero, List.nil_append, List.drop_of_length_le (by omega), List.append_nil] at h3
  exact h3
theorem arr_set {cur : List Value} {x : Value} {i : Nat} (hT : ∀ w, (sizeOf T).run P w = .ok 1 w) (hx : x.cells = #[x]) (h1 : x.oneCell' = true) (hg : Holds w g T0 cur) (hi : i < cur.length)
    (k : ∀ W, w.grownBy W (some g) → Holds W g T0 (cur.set i x) → K undef W) : oM P (.store T (.tmp 0) (.tmp 1)) T' [ptr g i, x] K w := by
  refine arr_storeRow (xs := [x]) hT hx rfl (by intro u hu; rw [List.mem_singleton] at hu; subst hu; exact h1) hg (by omega) (fun W h2 h3 => k W h2 ?_)
  rw [List.set_eq_take_append_cons_drop, if_pos hi]
  simpa [List.append_assoc] using h3
theorem grown_below {w0 w' : World} (h0 : Below w0.heap.size w0 w) (hg : w.grownBy w' (some g)) (h : w0.heap.size ≤ g) : Below w0.heap.size w0 w' :=
  h0.grown hg h0.size (fun k hk => by cases hk; exact h)
end
end Go.Sh
namespace Go.Sh
open Go Go.RowKit
abbrev Nx (w w' : World) : Prop := Below w.heap.size w w'
variable {S : World → World → Prop} {A N : (Value → World → Prop) → Prop}
theorem monoE {x : Value} (h : A (fun v _ => v = x)) (n : N (fun v _ => v = x)) : ∃ R : Value → World → Prop, (∀ v w w1, S w w1 → R v w → R v w1) ∧ A R ∧ N R := ⟨_, fun _ _ _ _ h => h, h, n⟩
theorem monoR (R : Value → World → Prop) (hs : ∀ v w w1, S w w1 → R v w → R v w1) (h : A R) (n : N R) : ∃ R : Value → World → Prop, (∀ v w w1, S w w1 → R v w → R v w1) ∧ A R ∧ N R := ⟨R, hs, h, n⟩
end Go.Sh
namespace JnSpec
open CodeSpec Go.Lib
def sumFrom : Nat → Bytes → Int
  | _, [] => 0
  | i, c :: t => (c.toNat : Int) * (i + 1) + sumFrom (i + 1) t
def sumR (s : Bytes) : Int := sumFrom 0 s
def form (s : Bytes) : Bytes := encText s ++ encNum (sumR s)
def formL (l : List Bytes) : Bytes := (l.map form).flatten
def bad1 (s t : Bytes) (n : Int) : Prop := 20000 < t.length ∨ n ≠ sumR t ∨ s.length < (form t).length ∨ s.take (form t).length ≠ form t
instance (s t : Bytes) (n : Int) : Decidable (bad1 s t n) := by unfold bad1; infer_instance
def first (s : Bytes) : Option Bytes := if bad1 s (rdText ⟨s, false⟩).1 (rdNum (rdText ⟨s, false⟩).2).1 then none else some (rdText ⟨s, false⟩).1
def recs : Nat → Bytes → List Bytes × Nat
  | 0, _ => ([], 0)
  | k + 1, s => if s = [] then ([], 0) else match first s with
    | none => ([], 0)
    | some t => (t :: (recs k (s.drop (form t).length)).1, (form t).length + (recs k (s.drop (form t).length)).2)
def readJ (s : Bytes) : List Bytes × Nat := recs s.length s
theorem sumFrom_bound (s : Bytes) (i : Nat) : 0 ≤ sumFrom i s ∧ sumFrom i s ≤ 255 * s.length * (i + s.length) := by
  induction s generalizing i with
  | nil => simp [sumFrom]
  | cons c t ih =>
    have h := ih (i + 1)
    have hc : (c.toNat : Int) ≤ 255 := by have := c.toNat_lt; omega
    have h0 : (0 : Int) ≤ (c.toNat : Int) := by omega
    have h1 : 0 ≤ (c.toNat : Int) * (i + 1) := Int.mul_nonneg h0 (by omega)
    have h2 : (c.toNat : Int) * (i + 1) ≤ 255 * (i + 1) := Int.mul_le_mul_of_nonneg_right hc (by omega)
    simp only [sumFrom, List.length_cons]
    refine ⟨by omega, ?_⟩
    have h3 := h.2
    have e : (255 : Int) * ((t.length + 1 : Nat) : Int) * ((i : Int) + ((t.length + 1 : Nat) : Int)) = 255 * (t.length : Int) * (((i + 1 : Nat) : Int) + (t.length : Int)) + 255 * ((i : Int) + 1 + (t.length : Int)) := by
      push_cast
      grind
    have e2 : (0 : Int) ≤ t.length := by omega
    omega
theorem sumR_bound (s : Bytes) : 0 ≤ sumR s ∧ sumR s ≤ 255 * s.length * s.length := by
  have := sumFrom_bound s 0
  simpa [sumR] using this
theorem sq_le {n m : Nat} (h : n ≤ m) : (255 : Int) * n * n ≤ 255 * m * m := by
  have h1 : (n : Int) ≤ m := by omega
  have h2 : (n : Int) * n ≤ (m : Int) * m := Int.mul_le_mul h1 h1 (by omega) (by omega)
  grind
theorem sumR_InR {s : Bytes} (h : s.length ≤ 16777216) : InR (sumR s) ∧ 0 ≤ sumR s := by
  have h1 := sumR_bound s
  have h2 := sq_le h
  have : (255 : Int) * (16777216 : Nat) * (16777216 : Nat) < 9223372036854775807 := by decide
  exact ⟨⟨by omega, by omega⟩, h1.1⟩
theorem form_pos (s : Bytes) : 0 < (form s).length := by
  simp [form, encText]
  omega
theorem first_form {t : Bytes} (ht : t.length ≤ 20000) (rest : Bytes) : first (form t ++ rest) = some t := by
  have h1 : form t ++ rest = encText t ++ (encNum (sumR t) ++ rest) := by simp [form]
  have h2 := rdText_enc t (encNum (sumR t) ++ rest) (by omega)
  have h3 := sumR_InR (s := t) (by omega)
  have h4 := rdNum_enc (sumR t) h3.1 h3.2 rest
  unfold first
  rw [h1, h2]
  dsimp only
  rw [h4, ← h1]
  rw [if_neg]
  unfold bad1
  rintro (h | h | h | h)
  · omega
  · exact h rfl
  · simp at h; omega
  · exact h (by simp)
theorem first_some {s t : Bytes} (h : first s = some t) : t.length ≤ 20000 ∧ s = form t ++ s.drop (form t).length := by
  unfold first at h
  split at h
  · cases h
  · rename_i hb
    simp only [Option.some.injEq] at h
    rw [h] at hb
    unfold bad1 at hb
    refine ⟨by omega, ?_⟩
    have : s.take (form t).length = form t := Classical.not_not.1 (fun e => hb (.inr (.inr (.inr e))))
    conv => lhs; rw [← List.take_append_drop (form t).length s, this]
theorem first_nil : first [] = none := by
  cases h : first [] with
  | none => rfl
  | some t =>
    have := (first_some h).2
    have := form_pos t
    have e : (form t ++ List.drop (form t).length []) = [] := (first_some h).2.symm
    simp only [List.append_eq_nil_iff] at e
    rw [e.1] at this
    simp at this
theorem recs_step {k : Nat} {s : Bytes} (hk : s.length ≤ k) : recs k s = match first s with
    | none => ([], 0)
    | some t => (t :: (readJ (s.drop (form t).length)).1, (form t).length + (readJ (s.drop (form t).length)).2) := by
  induction k using Nat.strongRecOn generalizing s with
  | ind k ih =>
  cases k with
  | zero =>
    have : s = [] := List.length_eq_zero_iff.1 (by omega)
    subst this
    rw [first_nil]; rfl
  | succ k =>
    unfold recs
    split
    · rename_i e; subst e; rw [first_nil]
    · cases h : first s with
      | none => rfl
      | some t =>
        dsimp only
        have hp := form_pos t
        have h1 : (s.drop (form t).length).length ≤ k := by rw [List.length_drop]; omega
        have e1 := ih k (by omega) h1
        have e2 := ih (s.drop (form t).length).length (by omega) (s := s.drop (form t).length) (Nat.le_refl _)
        have : recs k (s.drop (form t).length) = readJ (s.drop (form t).length) := e1.trans e2.symm
        rw [this]
theorem readJ_none {s : Bytes} (h : first s = none) : readJ s = ([], 0) := by
  unfold readJ; rw [recs_step (Nat.le_refl _), h]
theorem readJ_some {s t : Bytes} (h : first s = some t) : readJ s = (t :: (readJ (s.drop (form t).length)).1, (form t).length + (readJ (s.drop (form t).length)).2) := by
  conv => lhs; unfold readJ
  rw [recs_step (Nat.le_refl _), h]
theorem formL_cons (t : Bytes) (l : List Bytes) : formL (t :: l) = form t ++ formL l := by simp [formL]
theorem formL_append (l m : List Bytes) : formL (l ++ m) = formL l ++ formL m := by simp [formL]
def Few (l : List Bytes) : Prop := ∀ t ∈ l, t.length ≤ 20000
theorem readJ_spec (s : Bytes) : Few (readJ s).1 ∧ (readJ s).2 = (formL (readJ s).1).length ∧ s = formL (readJ s).1 ++ s.drop (readJ s).2 ∧ (s.drop (readJ s).2 = [] ∨ first (s.drop (readJ s).2) = none) := by
  generalize hn : s.length = n
  induction n using Nat.strongRecOn generalizing s with
  | ind n ih =>
  cases h : first s with
  | none =>
    rw [readJ_none h]
    exact ⟨fun t ht => by simp at ht, rfl, by simp [formL], .inr (by simpa using h)⟩
  | some t =>
    have h1 := first_some h
    have hp := form_pos t
    have hlen := congrArg List.length h1.2
    rw [List.length_append] at hlen
    have h2 := ih (s.drop (form t).length).length (by rw [List.length_drop]; omega) (s.drop (form t).length) rfl
    rw [readJ_some h]
    dsimp only
    refine ⟨fun x hx => ?_, ?_, ?_, ?_⟩
    · rcases List.mem_cons.1 hx with rfl | hx
      · exact h1.1
      · exact h2.1 x hx
    · rw [formL_cons, List.length_append, h2.2.1]
    · rw [formL_cons, List.append_assoc]
      have h3 := h2.2.2.1
      rw [List.drop_drop] at h3
      conv => lhs; rw [h1.2, h3]
    · have h3 := h2.2.2.2
      rw [List.drop_drop] at h3
      exact h3
def Dm : Bytes → Bytes → Prop
  | _, [] => True
  | [], _ :: _ => False
  | a :: x, b :: y => (b = a ∨ b = 0) ∧ Dm x y
theorem Dm.refl : ∀ x : Bytes, Dm x x
  | [] => trivial
  | _ :: x => ⟨.inl rfl, Dm.refl x⟩
theorem Dm.split : ∀ (p : Bytes) {x y : Bytes}, Dm x (p ++ y) → ∃ q x', x = q ++ x' ∧ q.length = p.length ∧ Dm q p ∧ Dm x' y
  | [], x, _, h => ⟨[], x, rfl, rfl, trivial, h⟩
  | b :: p, [], _, h => by cases h
  | b :: p, a :: x, y, h => by
    obtain ⟨q, x', e, l, d, r⟩ := Dm.split p h.2
    exact ⟨a :: q, x', by rw [e]; rfl, by simp [l], ⟨h.1, d⟩, r⟩
theorem Dm.solid : ∀ {q p : Bytes}, Dm q p → q.length = p.length → (∀ c ∈ p, c ≠ 0) → q = p
  | [], [], _, _, _ => rfl
  | a :: q, [], _, l, _ => by simp at l
  | [], b :: p, h, _, _ => by cases h
  | a :: q, b :: p, h, l, hn => by
    have : b = a := h.1.resolve_right (hn b (by simp))
    rw [this, Dm.solid h.2 (by simpa using l) (fun c hc => hn c (by simp [hc]))]
theorem Dm.take : ∀ {x y : Bytes} (n : Nat), Dm x y → Dm x (y.take n)
  | _, [], n, _ => by simp [Dm]
  | [], _ :: _, _, h => by cases h
  | _ :: _, _ :: _, 0, _ => trivial
  | a :: x, b :: y, n + 1, h => ⟨h.1, Dm.take n h.2⟩
theorem Dm.sum_le : ∀ {x y : Bytes} (i : Nat), Dm x y → x.length = y.length → sumFrom i y ≤ sumFrom i x ∧ (sumFrom i y = sumFrom i x → y = x)
  | [], [], _, _, _ => ⟨by simp, fun _ => rfl⟩
  | _ :: _, [], _, _, l => by simp at l
  | [], _ :: _, _, h, _ => by cases h
  | a :: x, b :: y, i, h, l => by
    obtain ⟨h1, h2⟩ := Dm.sum_le (i + 1) h.2 (by simpa using l)
    simp only [sumFrom]
    have ha : (0 : Int) ≤ (a.toNat : Int) * (i + 1) := Int.mul_nonneg (by omega) (by omega)
    rcases h.1 with e | e
    · subst e
      exact ⟨by omega, fun e2 => by rw [h2 (by omega)]⟩
    · subst e
      have z : ((0 : UInt8).toNat : Int) * (i + 1) = 0 := by simp
      rw [z]
      refine ⟨by omega, fun e2 => ?_⟩
      have e3 : (a.toNat : Int) * (i + 1) = 0 := by omega
      have e4 : (a.toNat : Int) = 0 := by
        rcases Int.mul_eq_zero.1 e3 with h | h
        · exact h
        · omega
      have e5 : a = 0 := by
        apply UInt8.toNat_inj.1
        have : (0 : UInt8).toNat = 0 := rfl
        omega
      rw [h2 (by omega), e5]
theorem cut_eq {c : UInt8} : ∀ {a b x y : Bytes}, (∀ d ∈ a, d ≠ c) → (∀ d ∈ b, d ≠ c) → a ++ c :: x = b ++ c :: y → a = b ∧ x = y
  | [], [], _, _, _, _, h => ⟨rfl, by simpa using h⟩
  | [], d :: b, _, _, _, hb, h => by
    simp only [List.nil_append, List.cons_append, List.cons.injEq] at h
    exact absurd h.1.symm (hb d (by simp))
  | d :: a, [], _, _, ha, _, h => by
    simp only [List.nil_append, List.cons_append, List.cons.injEq] at h
    exact absurd h.1 (ha d (by simp))
  | d :: a, e :: b, _, _, ha, hb, h => by
    simp only [List.cons_append, List.cons.injEq] at h
    obtain ⟨h1, h2⟩ := cut_eq (fun d hd => ha d (by simp [hd])) (fun d hd => hb d (by simp [hd])) h.2
    exact ⟨by rw [h.1, h1], h2⟩
theorem itoa_byte (n : Int) : ∀ c ∈ itoa n, c = 45 ∨ (48 ≤ c.toNat ∧ c.toNat ≤ 57) := by
  unfold itoa
  split
  · intro c hc
    rcases List.mem_cons.1 hc with rfl | hc
    · exact .inl rfl
    · exact .inr (decDigits_digit _ c hc)
  · intro c hc
    exact .inr (decDigits_digit _ c hc)
theorem itoa_ne (n : Int) (d : UInt8) (h1 : d ≠ 45) (h2 : ¬ (48 ≤ d.toNat ∧ d.toNat ≤ 57)) : ∀ c ∈ itoa n, c ≠ d := by
  intro c hc e
  subst e
  rcases itoa_byte n c hc with h | h
  · exact h1 h
  · exact h2 h
theorem itoa_inj {n m : Int} (hn : InR n) (hm : InR m) (h : itoa n = itoa m) : n = m := by
  have h1 := atoi_itoa n hn
  have h2 := atoi_itoa m hm
  rw [h, h2] at h1
  cases h1; rfl
theorem form_split {s : Bytes} : form s = (itoa s.length ++ [58]) ++ (s ++ (44 :: (itoa (sumR s) ++ [59]))) := by
  have : ¬ sumR s < 0 := by have := (sumR_bound s).1; omega
  simp [form, encText, encNum, encInt, this]
theorem Dm.head {n m : Int} {c : UInt8} {x y : Bytes} (hn : InR n) (hm : InR m) (hc : c ≠ 0 ∧ c ≠ 45 ∧ ¬ (48 ≤ c.toNat ∧ c.toNat ≤ 57)) (h : Dm (itoa n ++ c :: x) (itoa m ++ c :: y)) : n = m ∧ Dm x y := by
  have e : itoa m ++ c :: y = (itoa m ++ [c]) ++ y := by simp
  rw [e] at h
  obtain ⟨q, x', e1, l, d, r⟩ := Dm.split _ h
  have hs := d.solid l (fun b hb => by
    rcases List.mem_append.1 hb with hb | hb
    · exact itoa_ne m 0 (by decide) (by decide) b hb
    · simp only [List.mem_singleton] at hb
      rw [hb]; exact hc.1)
  rw [hs, List.append_assoc] at e1
  obtain ⟨e2, e3⟩ := cut_eq (itoa_ne n c hc.2.1 hc.2.2) (itoa_ne m c hc.2.1 hc.2.2) e1
  exact ⟨itoa_inj hn hm e2, by rw [e3]; exact r⟩
theorem Dm.form {t u : Bytes} {x y : Bytes} (ht : t.length ≤ 16777216) (hu : u.length ≤ 16777216) (h : Dm (form t ++ x) (form u ++ y)) : u = t ∧ Dm x y := by
  rw [form_split, form_split] at h
  have h : Dm (itoa t.length ++ 58 :: (t ++ 44 :: (itoa (sumR t) ++ 59 :: x))) (itoa u.length ++ 58 :: (u ++ 44 :: (itoa (sumR u) ++ 59 :: y))) := by simpa using h
  obtain ⟨e1, h⟩ := Dm.head ⟨by omega, by omega⟩ ⟨by omega, by omega⟩ (by decide) h
  obtain ⟨q, x', e2, l2, d2, h⟩ := Dm.split u h
  obtain ⟨e3, e4⟩ := List.append_inj e2 (by omega)
  subst e3
  subst e4
  have h := h.2
  obtain ⟨e5, h⟩ := Dm.head (sumR_InR ht).1 (sumR_InR hu).1 (by decide) h
  exact ⟨(d2.sum_le 0 l2).2 e5.symm, h⟩
theorem Dm.readJ {l : List Bytes} (hl : Few l) {y : Bytes} (h : Dm (formL l) y) : (readJ y).1 <+: l := by
  induction l generalizing y with
  | nil =>
    cases y with
    | nil => rw [readJ_none first_nil]; exact List.nil_prefix
    | cons b y => cases h
  | cons t l ih =>
    cases hf : first y with
    | none => rw [readJ_none hf]; exact List.nil_prefix
    | some u =>
      have h1 := first_some hf
      rw [readJ_some hf]
      rw [h1.2, formL_cons] at h
      have ht := hl t (by simp)
      obtain ⟨e, h2⟩ := Dm.form (by omega) (by omega) h
      have := ih (fun x hx => hl x (by simp [hx])) h2
      subst e
      exact (List.cons_prefix_cons).2 ⟨rfl, this⟩
end JnSpec
namespace DkSpec
abbrev Bs := List UInt8
def putB (s : Bs) (at_ : Nat) (t : Bs) : Bs :=
  if t = [] then s else (s ++ List.replicate (at_ + t.length - s.length) 0).take at_ ++ t ++ (s ++ List.replicate (at_ + t.length - s.length) 0).drop (at_ + t.length)
structure Ab where
  F : Int → Bs × Bs
  queue : List (Int × Int)
  lost : Int
  down : Bool
  armed : Int
  keep : List Int
def setF (F : Int → Bs × Bs) (f : Int) (x : Bs × Bs) : Int → Bs × Bs := fun g => if g = f then x else F g
def pushQ (f : Int) : List (Int × Int) → List Int → List (Int × Int)
  | q, [] => q
  | q, n :: ns => pushQ f (if (f, n) ∈ q then q else q ++ [(f, n)]) ns
def secs (at_ len : Nat) : List Int := (List.range' (at_ / 64) ((at_ + len - 1) / 64 + 1 - at_ / 64)).map Int.ofNat
def newA : Ab := ⟨fun _ => ([], []), [], 0, false, 0, []⟩
def mayA (A : Ab) (f : Int) : Int := if A.down = true then 8 else if f < 0 ∨ 16 ≤ f then 1 else 0
def addA (A : Ab) (f : Int) (at_ : Nat) (s : Bs) : Ab := if s = [] then A else { A with F := setF A.F f (putB (A.F f).1 at_ s, (A.F f).2), queue := pushQ f A.queue (secs at_ s.length) }
def wrA (A : Ab) (f at_ : Int) (s : Bs) : Int × Ab :=
  if mayA A f ≠ 0 then (mayA A f, A) else if at_ < 0 then (1, A) else if 16777216 < at_ + s.length then (6, A) else (0, addA A f at_.toNat s)
def sector (s : Bs) (n : Int) : Bs := (s.drop (64 * n).toNat).take 64
def survF (keep : List Int) (F : Int → Bs × Bs) (i : Nat) (p : Int × Int) : Int → Bs × Bs :=
  if keep = [] ∨ keep.getD (i % keep.length) 0 % 2 = 0 ∨ ((F p.1).1.length : Int) ≤ 64 * p.2 then F else setF F p.1 ((F p.1).1, putB (F p.1).2 (64 * p.2).toNat (sector (F p.1).1 p.2))
def survAll (keep : List Int) : (Int → Bs × Bs) → Nat → List (Int × Int) → Int → Bs × Bs
  | F, _, [] => F
  | F, i, p :: q => survAll keep (survF keep F i p) (i + 1) q
def crashA (A : Ab) (keep : List Int) : Ab :=
  if A.down = true then A else { A with F := fun f => ((survAll keep A.F 0 A.queue f).2, (survAll keep A.F 0 A.queue f).2), queue := [], down := true, armed := 0 }
def endsA (A : Ab) : Bool × Ab := if A.down = true ∨ A.armed = 0 then (false, A) else (decide (A.armed = 1), { A with armed := A.armed - 1 })
def settleA (A : Ab) (f : Int) (s : Bs) : Ab := { A with F := setF A.F f (s, s), queue := A.queue.filter (fun p => decide (p.1 ≠ f)) }
def comesA (A : Ab) : Ab := if (endsA A).1 = true then crashA (endsA A).2 (endsA A).2.keep else (endsA A).2
def writeA (A : Ab) (f at_ : Int) (s : Bs) : Int × Ab :=
  if (endsA A).1 = true then (8, crashA (wrA (endsA A).2 f at_ s).2 (wrA (endsA A).2 f at_ s).2.keep) else wrA (endsA A).2 f at_ s
def syncA (A : Ab) (f : Int) : Int × Ab :=
  if mayA (comesA A) f ≠ 0 then (mayA (comesA A) f, comesA A) else if 0 < (comesA A).lost then (9, { comesA A with lost := (comesA A).lost - 1 }) else (0, settleA (comesA A) f ((comesA A).F f).1)
def truncA (A : Ab) (f n : Int) : Int × Ab :=
  if mayA (comesA A) f ≠ 0 then (mayA (comesA A) f, comesA A) else if n < 0 ∨ (((comesA A).F f).1.length : Int) < n then (1, comesA A) else (0, settleA (comesA A) f (((comesA A).F f).1.take n.toNat))
def loseA (A : Ab) (n : Int) : Ab := { A with lost := max n 0 }
def armA (A : Ab) (n : Int) (keep : List Int) : Ab := { A with armed := max n 0, keep := keep }
def startA (A : Ab) : Ab := { A with down := false }
def readA (A : Ab) (f at_ size : Int) : Bs × Int :=
  if mayA A f ≠ 0 then ([], mayA A f) else if at_ < 0 ∨ size < 0 then ([], 1) else (((A.F f).1.drop at_.toNat).take size.toNat, 0)
structure WF (A : Ab) : Prop where
  l0 : 0 ≤ A.lost
  l1 : A.lost < 2 ^ 63
  a0 : 0 ≤ A.armed
  a1 : A.armed < 2 ^ 63
  nd : A.queue.Nodup
  qr : ∀ p ∈ A.queue, 0 ≤ p.1 ∧ p.1 < 16 ∧ 0 ≤ p.2 ∧ p.2 < 262144
  sz : ∀ f, (A.F f).1.length ≤ 16777216 ∧ (A.F f).2.length ≤ 16777216
  kr : ∀ x ∈ A.keep, -2 ^ 63 ≤ x ∧ x < 2 ^ 63
  kl : A.keep.length < 2 ^ 62
theorem length_lt (l : List Nat) (n : Nat) (hn : l.Nodup) (h : ∀ x ∈ l, x < n) : l.length ≤ n := by
  induction n generalizing l with
  | zero =>
    cases l with
    | nil => simp
    | cons x l => exact absurd (h x (List.mem_cons_self ..)) (by omega)
  | succ n ih =>
    by_cases hm : n ∈ l
    · have := ih (l.erase n) (hn.erase n) (fun x hx => by
        have h1 := (hn.mem_erase_iff).1 hx
        have := h x h1.2
        have := h1.1
        omega)
      rw [List.length_erase_of_mem hm] at this
      omega
    · have := ih l hn (fun x hx => by
        have := h x hx
        have : x ≠ n := fun e => hm (e ▸ hx)
        omega)
      omega
theorem WF.ql {A : Ab} (h : WF A) : A.queue.length ≤ 4194304 := by
  have hm : (A.queue.map (fun p => (p.1 * 262144 + p.2).toNat)).Nodup := by
    have hq := h.qr
    have hn := h.nd
    generalize A.queue = q at hq hn
    induction q with
    | nil => simp
    | cons p q ih =>
      rw [List.nodup_cons] at hn
      rw [List.map_cons, List.nodup_cons]
      refine ⟨?_, ih (fun x hx => hq x (List.mem_cons_of_mem _ hx)) hn.2⟩
      intro hm
      obtain ⟨x, hx, e⟩ := List.mem_map.1 hm
      have h1 := hq x (List.mem_cons_of_mem _ hx)
      have h2 := hq p (List.mem_cons_self ..)
      have : x = p := by
        obtain ⟨a, b⟩ := x
        obtain ⟨c, d⟩ := p
        simp only [Prod.mk.injEq] at *
        omega
      exact hn.1 (this ▸ hx)
  have := length_lt _ 4194304 hm (fun x hx => by
    obtain ⟨p, hp, rfl⟩ := List.mem_map.1 hx
    have := h.qr p hp
    omega)
  simpa using this
theorem putB_length (s : Bs) (a : Nat) (t : Bs) : (putB s a t).length = if t = [] then s.length else max s.length (a + t.length) := by
  unfold putB
  split
  · rfl
  · simp only [List.length_append, List.length_take, List.length_drop, List.length_replicate]
    omega
theorem pushQ_mem (f : Int) (ns : List Int) (q : List (Int × Int)) (p : Int × Int) : p ∈ pushQ f q ns ↔ p ∈ q ∨ (p.1 = f ∧ p.2 ∈ ns) := by
  induction ns generalizing q with
  | nil => simp [pushQ]
  | cons n ns ih =>
    unfold pushQ
    rw [ih]
    have e : p = (f, n) ↔ p.1 = f ∧ p.2 = n := Prod.ext_iff
    have h1 : p ∈ (if (f, n) ∈ q then q else q ++ [(f, n)]) ↔ p ∈ q ∨ (p.1 = f ∧ p.2 = n) := by
      rw [← e]
      split
      · rename_i hm
        exact ⟨.inl, fun h => h.elim id (fun e => e ▸ hm)⟩
      · rw [List.mem_append, List.mem_singleton]
    rw [h1, List.mem_cons]
    grind
theorem pushQ_nodup (f : Int) (ns : List Int) (q : List (Int × Int)) (h : q.Nodup) : (pushQ f q ns).Nodup := by
  induction ns generalizing q with
  | nil => exact h
  | cons n ns ih =>
    unfold pushQ
    apply ih
    split
    · exact h
    · rename_i hm
      rw [List.nodup_append]
      refine ⟨h, by simp, ?_⟩
      intro a ha b hb
      simp only [List.mem_singleton] at hb
      subst hb
      rintro rfl
      exact hm ha
theorem secs_mem (a len : Nat) (n : Int) (hl : 0 < len) : n ∈ secs a len ↔ 0 ≤ n ∧ (a / 64 : Nat) ≤ n ∧ n ≤ ((a + len - 1) / 64 : Nat) := by
  unfold secs
  simp only [List.mem_map, List.mem_range'_1]
  constructor
  · rintro ⟨k, hk, rfl⟩
    simp only [Int.ofNat_eq_natCast]
    omega
  · rintro ⟨h0, h1, h2⟩
    refine ⟨n.toNat, by omega, ?_⟩
    simp only [Int.ofNat_eq_natCast]
    omega
theorem setF_same (F : Int → Bs × Bs) (f : Int) (x : Bs × Bs) : setF F f x f = x := by simp [setF]
theorem setF_ne (F : Int → Bs × Bs) (f g : Int) (x : Bs × Bs) (h : g ≠ f) : setF F f x g = F g := by simp [setF, h]
theorem newA_wf : WF newA := ⟨by decide, by decide, by decide, by decide, by simp [newA], by simp [newA], by simp [newA], by simp [newA], by simp [newA]⟩
theorem mayA_ok {A : Ab} {f : Int} (h : mayA A f = 0) : A.down = false ∧ 0 ≤ f ∧ f < 16 := by
  unfold mayA at h
  cases hd : A.down with
  | true => rw [hd] at h; simp at h
  | false =>
    rw [hd] at h
    simp only [Bool.false_eq_true, if_false] at h
    split at h
    · cases h
    · exact ⟨rfl, by omega, by omega⟩
theorem addA_wf {A : Ab} (h : WF A) (f : Int) (a : Nat) (s : Bs) (hf : 0 ≤ f ∧ f < 16) (hs : a + s.length ≤ 16777216) : WF (addA A f a s) := by
  unfold addA
  split
  · exact h
  · rename_i hne
    have hl : 0 < s.length := List.length_pos_iff.2 hne
    refine ⟨h.l0, h.l1, h.a0, h.a1, pushQ_nodup f _ _ h.nd, ?_, ?_, h.kr, h.kl⟩
    · intro p hp
      rcases (pushQ_mem f _ _ p).1 hp with hp | ⟨h1, h2⟩
      · exact h.qr p hp
      · rw [secs_mem _ _ _ hl] at h2
        omega
    · intro g
      by_cases hg : g = f
      · subst hg
        show (setF A.F g _ g).1.length ≤ _ ∧ (setF A.F g _ g).2.length ≤ _
        rw [setF_same, putB_length, if_neg hne]
        have := h.sz g
        exact ⟨by show max _ _ ≤ _; omega, this.2⟩
      · show (setF A.F f _ g).1.length ≤ _ ∧ (setF A.F f _ g).2.length ≤ _
        rw [setF_ne _ _ _ _ hg]
        exact h.sz g
theorem endsA_wf {A : Ab} (h : WF A) : WF (endsA A).2 := by
  unfold endsA
  split
  · exact h
  · rename_i hn
    have h0 := h.a0
    have h1 := h.a1
    have : ¬ A.armed = 0 := fun e => hn (.inr e)
    exact ⟨h.l0, h.l1, by show 0 ≤ A.armed - 1; omega, by show A.armed - 1 < _; omega, h.nd, h.qr, h.sz, h.kr, h.kl⟩
theorem survF_sz (keep : List Int) (F : Int → Bs × Bs) (i : Nat) (p : Int × Int) (hp : 0 ≤ p.2) (h : ∀ f, (F f).1.length ≤ 16777216 ∧ (F f).2.length ≤ 16777216) (f : Int) : (survF keep F i p f).1 = (F f).1 ∧ (survF keep F i p f).2.length ≤ 16777216 := by
  unfold survF
  split
  · exact ⟨rfl, (h f).2⟩
  · rename_i hn
    by_cases hf : f = p.1
    · subst hf
      rw [setF_same]
      refine ⟨rfl, ?_⟩
      simp only [putB_length, sector]
      have h1 := h p.1
      have : ¬ ((F p.1).1.length : Int) ≤ 64 * p.2 := fun e => hn (.inr (.inr e))
      split
      · exact h1.2
      · simp only [List.length_take, List.length_drop]
        omega
    · rw [setF_ne _ _ _ _ hf]
      exact ⟨rfl, (h f).2⟩
theorem survAll_sz (keep : List Int) (q : List (Int × Int)) (F : Int → Bs × Bs) (i : Nat) (hq : ∀ p ∈ q, 0 ≤ p.2) (h : ∀ f, (F f).1.length ≤ 16777216 ∧ (F f).2.length ≤ 16777216) (f : Int) : (survAll keep F i q f).1 = (F f).1 ∧ (survAll keep F i q f).2.length ≤ 16777216 := by
  induction q generalizing F i with
  | nil => exact ⟨rfl, (h f).2⟩
  | cons p q ih =>
    unfold survAll
    have h1 := survF_sz keep F i p (hq p (List.mem_cons_self ..)) h
    have := ih (survF keep F i p) (i + 1) (fun x hx => hq x (List.mem_cons_of_mem _ hx)) (fun g => ⟨by rw [(h1 g).1]; exact (h g).1, (h1 g).2⟩)
    exact ⟨by rw [this.1, (h1 f).1], this.2⟩
theorem crashA_wf {A : Ab} (h : WF A) (keep : List Int) : WF (crashA A keep) := by
  unfold crashA
  split
  · exact h
  · refine ⟨h.l0, h.l1, Int.le_refl _, by show (0 : Int) < _; omega, List.nodup_nil, fun p hp => absurd hp (by simp), ?_, h.kr, h.kl⟩
    intro f
    have := survAll_sz keep A.queue A.F 0 (fun p hp => (h.qr p hp).2.2.1) h.sz f
    exact ⟨this.2, this.2⟩
theorem settleA_wf {A : Ab} (h : WF A) (f : Int) (s : Bs) (hs : s.length ≤ 16777216) : WF (settleA A f s) := by
  refine ⟨h.l0, h.l1, h.a0, h.a1, h.nd.filter _, fun p hp => h.qr p (List.mem_filter.1 hp).1, ?_, h.kr, h.kl⟩
  intro g
  show (setF A.F f _ g).1.length ≤ _ ∧ (setF A.F f _ g).2.length ≤ _
  by_cases hg : g = f
  · subst hg; rw [setF_same]; exact ⟨hs, hs⟩
  · rw [setF_ne _ _ _ _ hg]; exact h.sz g
theorem comesA_wf {A : Ab} (h : WF A) : WF (comesA A) := by
  unfold comesA
  split
  · exact crashA_wf (endsA_wf h) _
  · exact endsA_wf h
theorem syncA_wf {A : Ab} (h : WF A) (f : Int) : WF (syncA A f).2 := by
  have h1 := comesA_wf h
  unfold syncA
  split
  · exact h1
  · split
    · rename_i hl
      have := h1.l1
      exact ⟨by show 0 ≤ (comesA A).lost - 1; omega, by show (comesA A).lost - 1 < _; omega, h1.a0, h1.a1, h1.nd, h1.qr, h1.sz, h1.kr, h1.kl⟩
    · exact settleA_wf h1 f _ (h1.sz f).1
theorem armA_wf {A : Ab} (h : WF A) (n : Int) (hn : n < 2 ^ 63) (keep : List Int) (hk : ∀ x ∈ keep, -2 ^ 63 ≤ x ∧ x < 2 ^ 63) (hl : keep.length < 2 ^ 62) : WF (armA A n keep) :=
  ⟨h.l0, h.l1, by show 0 ≤ max n 0; omega, by show max n 0 < _; omega, h.nd, h.qr, h.sz, hk, hl⟩
end DkSpec
namespace DkSpec
def Firm (f : Int) (s : Bs) (A : Ab) : Prop := A.F f = (s, s) ∧ ∀ p ∈ A.queue, p.1 ≠ f
theorem survF_ne (keep : List Int) (F : Int → Bs × Bs) (i : Nat) (p : Int × Int) (f : Int) (h : p.1 ≠ f) : survF keep F i p f = F f := by
  unfold survF
  split
  · rfl
  · exact setF_ne _ _ _ _ (Ne.symm h)
theorem survAll_ne (keep : List Int) (q : List (Int × Int)) (F : Int → Bs × Bs) (i : Nat) (f : Int) (h : ∀ p ∈ q, p.1 ≠ f) : survAll keep F i q f = F f := by
  induction q generalizing F i with
  | nil => rfl
  | cons p q ih =>
    unfold survAll
    rw [ih _ _ (fun r hr => h r (List.mem_cons_of_mem _ hr)), survF_ne _ _ _ _ _ (h p (List.mem_cons_self ..))]
variable {f : Int} {s : Bs} {A : Ab}
theorem Firm.ends (h : Firm f s A) : Firm f s (endsA A).2 := by
  unfold endsA
  split
  · exact h
  · exact h
theorem Firm.crash (h : Firm f s A) (keep : List Int) : Firm f s (crashA A keep) := by
  unfold crashA
  split
  · exact h
  · refine ⟨?_, fun p hp => absurd hp (by simp)⟩
    show ((survAll keep A.F 0 A.queue f).2, (survAll keep A.F 0 A.queue f).2) = _
    rw [survAll_ne _ _ _ _ _ h.2, h.1]
theorem Firm.comes (h : Firm f s A) : Firm f s (comesA A) := by
  unfold comesA
  split
  · exact h.ends.crash _
  · exact h.ends
theorem Firm.wr (h : Firm f s A) (g at_ : Int) (t : Bs) (hg : g ≠ f) : Firm f s (wrA A g at_ t).2 := by
  unfold wrA
  repeat' split
  · exact h
  · exact h
  · exact h
  · unfold addA
    split
    · exact h
    · refine ⟨?_, ?_⟩
      · show setF A.F g _ f = _
        rw [setF_ne _ _ _ _ (Ne.symm hg)]; exact h.1
      · intro p hp
        rcases (pushQ_mem g _ _ p).1 hp with hp | ⟨h1, _⟩
        · exact h.2 p hp
        · rw [h1]; exact hg
theorem Firm.settle (h : Firm f s A) (g : Int) (t : Bs) (hg : g ≠ f) : Firm f s (settleA A g t) := by
  refine ⟨?_, fun p hp => h.2 p (List.mem_filter.1 hp).1⟩
  show setF A.F g _ f = _
  rw [setF_ne _ _ _ _ (Ne.symm hg)]; exact h.1
theorem Firm.sync (h : Firm f s A) (g : Int) (hg : g ≠ f) : Firm f s (syncA A g).2 := by
  have h1 := h.comes
  unfold syncA
  repeat' split
  · exact h1
  · exact h1
  · exact h1.settle g _ hg
theorem endsA_same (A : Ab) : (endsA A).2.F = A.F ∧ (endsA A).2.down = A.down ∧ (endsA A).2.queue = A.queue ∧ (endsA A).2.lost = A.lost ∧ (endsA A).2.keep = A.keep := by
  unfold endsA
  split
  · exact ⟨rfl, rfl, rfl, rfl, rfl⟩
  · exact ⟨rfl, rfl, rfl, rfl, rfl⟩
theorem crashA_down (A : Ab) (keep : List Int) : (crashA A keep).down = true := by
  unfold crashA
  split
  · assumption
  · rfl
theorem mayA_up {A : Ab} {f : Int} (h : A.down = false) (hf : 0 ≤ f ∧ f < 16) : mayA A f = 0 := by
  unfold mayA
  rw [h]
  simp only [Bool.false_eq_true, if_false]
  rw [if_neg (by omega)]
end DkSpec
namespace DkSpec
theorem getD_take_drop (s : Bs) (a n j : Nat) : ((s.drop a).take n).getD j 0 = if j < n then s.getD (a + j) 0 else 0 := by
  simp only [List.getD_eq_getElem?_getD]
  split
  · rename_i h
    rw [List.getElem?_take_of_lt h, List.getElem?_drop]
  · rename_i h
    rw [List.getElem?_eq_none (by simp only [List.length_take]; omega)]
    rfl
theorem putB_getD (s t : Bs) (a j : Nat) : (putB s a t).getD j 0 = if a ≤ j ∧ j < a + t.length then t.getD (j - a) 0 else s.getD j 0 := by
  unfold putB
  by_cases ht : t = []
  · subst ht
    rw [if_pos rfl, if_neg (by simp)]
  · rw [if_neg ht]
    have hl : (s ++ List.replicate (a + t.length - s.length) 0).length ≥ a + t.length := by simp; omega
    generalize hp : s ++ List.replicate (a + t.length - s.length) (0 : UInt8) = p at *
    have hpj : p.getD j 0 = s.getD j 0 := by
      rw [← hp]
      simp only [List.getD_eq_getElem?_getD]
      by_cases hj : j < s.length
      · rw [List.getElem?_append_left hj]
      · rw [List.getElem?_append_right (by omega), List.getElem?_eq_none (l := s) (by omega)]
        by_cases h2 : j - s.length < a + t.length - s.length
        · rw [List.getElem?_replicate_of_lt h2]; rfl
        · rw [List.getElem?_eq_none (by simp; omega)]
    have hta : (p.take a).length = a := by simp; omega
    have ht2 : (p.take a ++ t).length = a + t.length := by simp; omega
    rw [← hpj]
    simp only [List.getD_eq_getElem?_getD]
    by_cases h1 : j < a
    · rw [if_neg (by omega), List.getElem?_append_left (by rw [ht2]; omega), List.getElem?_append_left (by rw [hta]; exact h1), List.getElem?_take_of_lt h1]
    · by_cases h2 : j < a + t.length
      · rw [if_pos ⟨by omega, h2⟩, List.getElem?_append_left (by rw [ht2]; exact h2), List.getElem?_append_right (by rw [hta]; omega), hta]
      · rw [if_neg (by omega), List.getElem?_append_right (by rw [ht2]; omega), ht2, List.getElem?_drop]
        congr 2
        omega
def GoodF (x : Bs × Bs) (f : Int) (q : List (Int × Int)) : Prop := x.2.length ≤ x.1.length ∧ (∀ j : Nat, j < x.1.length → (f, ((j / 64 : Nat) : Int)) ∉ q → x.1.getD j 0 = x.2.getD j 0) ∧
  (x.2.length < x.1.length → (f, (((x.1.length - 1) / 64 : Nat) : Int)) ∈ q)
def Good (A : Ab) : Prop := ∀ f, GoodF (A.F f) f A.queue
theorem good_eq {A : Ab} {f : Int} {s : Bs} (h : A.F f = (s, s)) : GoodF (A.F f) f A.queue := by
  rw [h]
  exact ⟨Nat.le_refl _, fun _ _ _ => rfl, fun h => absurd h (Nat.lt_irrefl _)⟩
theorem good_same {A B : Ab} (h : Good A) (hF : B.F = A.F) (hq : B.queue = A.queue) : Good B := by
  intro f; rw [hF, hq]; exact h f
theorem Good.ends {A : Ab} (h : Good A) : Good (endsA A).2 := good_same h (endsA_same A).1 (endsA_same A).2.2.1
theorem Good.crash {A : Ab} (h : Good A) (keep : List Int) : Good (crashA A keep) := by
  unfold crashA
  split
  · exact h
  · intro f
    exact good_eq rfl
theorem Good.comes {A : Ab} (h : Good A) : Good (comesA A) := by
  unfold comesA
  split
  · exact h.ends.crash _
  · exact h.ends
theorem Good.settle {A : Ab} (h : Good A) (g : Int) (s : Bs) : Good (settleA A g s) := by
  intro f
  by_cases hf : f = g
  · subst hf
    exact good_eq (s := s) (setF_same _ _ _)
  · have hF : (settleA A g s).F f = A.F f := setF_ne _ _ _ _ hf
    rw [hF]
    obtain ⟨h1, h2, h3⟩ := h f
    have hm : ∀ n, (f, n) ∈ (settleA A g s).queue ↔ (f, n) ∈ A.queue := by
      intro n
      show (f, n) ∈ A.queue.filter _ ↔ _
      rw [List.mem_filter]
      simp [hf]
    exact ⟨h1, fun j hj hn => h2 j hj (fun hc => hn ((hm _).2 hc)), fun hl => (hm _).2 (h3 hl)⟩
theorem Good.add {A : Ab} (h : Good A) (g : Int) (a : Nat) (s : Bs) : Good (addA A g a s) := by
  unfold addA
  split
  · exact h
  · rename_i hs
    have hl : 0 < s.length := List.length_pos_iff.2 hs
    intro f
    obtain ⟨h1, h2, h3⟩ := h f
    have hmem : ∀ n, (f, n) ∈ pushQ g A.queue (secs a s.length) ↔ (f, n) ∈ A.queue ∨ (f = g ∧ n ∈ secs a s.length) := fun n => pushQ_mem g _ _ (f, n)
    by_cases hf : f = g
    · subst hf
      have hF : setF A.F f (putB (A.F f).1 a s, (A.F f).2) f = (putB (A.F f).1 a s, (A.F f).2) := setF_same _ _ _
      show GoodF (setF A.F f _ f) f (pushQ _ _ _)
      rw [hF]
      unfold GoodF
      simp only
      have hpl := putB_length (A.F f).1 a s
      rw [if_neg hs] at hpl
      refine ⟨by omega, ?_, ?_⟩
      · intro j hj hn
        rw [hmem] at hn
        have hn1 : (f, ((j / 64 : Nat) : Int)) ∉ A.queue := fun hc => hn (.inl hc)
        have hn2 : ¬ (a ≤ j ∧ j < a + s.length) := by
          intro hc
          refine hn (.inr ⟨rfl, (secs_mem _ _ _ hl).2 ?_⟩)
          omega
        rw [putB_getD, if_neg hn2]
        by_cases hj2 : j < (A.F f).1.length
        · exact h2 j hj2 hn1
        · simp only [List.getD_eq_getElem?_getD]
          rw [List.getElem?_eq_none (by omega), List.getElem?_eq_none (by omega)]
      · intro hlt
        rw [hmem]
        by_cases hgrow : (putB (A.F f).1 a s).length = (A.F f).1.length
        · rw [hgrow] at hlt ⊢
          exact .inl (h3 hlt)
        · refine .inr ⟨rfl, (secs_mem _ _ _ hl).2 ?_⟩
          have : (putB (A.F f).1 a s).length = a + s.length := by omega
          rw [this]
          omega
    · have hF : setF A.F g (putB (A.F g).1 a s, (A.F g).2) f = A.F f := setF_ne _ _ _ _ hf
      show GoodF (setF A.F g _ f) f (pushQ _ _ _)
      rw [hF]
      exact ⟨h1, fun j hj hn => h2 j hj (fun hc => hn ((hmem _).2 (.inl hc))), fun hlt => (hmem _).2 (.inl (h3 hlt))⟩
theorem Good.wr {A : Ab} (h : Good A) (f at_ : Int) (s : Bs) : Good (wrA A f at_ s).2 := by
  unfold wrA
  repeat' split
  · exact h
  · exact h
  · exact h
  · exact h.add _ _ _
theorem Good.sync {A : Ab} (h : Good A) (f : Int) : Good (syncA A f).2 := by
  have h1 := h.comes
  unfold syncA
  repeat' split
  · exact h1
  · exact good_same h1 rfl rfl
  · exact h1.settle _ _
def putAll (now : Bs) (r : Bs) : List Nat → Bs
  | [] => r
  | n :: ns => putAll now (putB r (64 * n) (sector now n)) ns
theorem sector_len (now : Bs) (n : Nat) : (sector now n).length = min 64 (now.length - 64 * n) := by
  unfold sector
  simp only [List.length_take, List.length_drop]
  omega
theorem sector_getD (now : Bs) (n j : Nat) (h : j < 64) : (sector now n).getD j 0 = now.getD (64 * n + j) 0 := by
  unfold sector
  rw [getD_take_drop, if_pos h]
  congr 1
def survL (keep : List Int) (now : Bs) (f : Int) : Nat → List (Int × Int) → List Nat
  | _, [] => []
  | i, p :: q => if p.1 = f ∧ ¬ (keep = [] ∨ keep.getD (i % keep.length) 0 % 2 = 0 ∨ (now.length : Int) ≤ 64 * p.2) then p.2.toNat :: survL keep now f (i + 1) q else survL keep now f (i + 1) q
theorem survAll_putAll (keep : List Int) (q : List (Int × Int)) (F : Int → Bs × Bs) (i : Nat) (f : Int) (hq : ∀ p ∈ q, 0 ≤ p.2) : (survAll keep F i q f).2 = putAll (F f).1 (F f).2 (survL keep (F f).1 f i q) := by
  induction q generalizing F i with
  | nil => rfl
  | cons p q ih =>
    unfold survAll survL
    rw [ih _ _ (fun r hr => hq r (List.mem_cons_of_mem _ hr))]
    have hp := hq p (List.mem_cons_self ..)
    by_cases hf : p.1 = f
    · subst hf
      by_cases hc : keep = [] ∨ keep.getD (i % keep.length) 0 % 2 = 0 ∨ ((F p.1).1.length : Int) ≤ 64 * p.2
      · have : survF keep F i p = F := by unfold survF; rw [if_pos hc]
        rw [this, if_neg (fun h => h.2 hc)]
      · have hs : survF keep F i p = setF F p.1 ((F p.1).1, putB (F p.1).2 (64 * p.2).toNat (sector (F p.1).1 p.2)) := by unfold survF; rw [if_neg hc]
        rw [hs, setF_same, if_pos ⟨rfl, hc⟩]
        obtain ⟨m, hm⟩ := Int.eq_ofNat_of_zero_le hp
        rw [hm]
        simp only [Int.toNat_natCast, putAll]
        rw [show (64 * (m : Int)).toNat = 64 * m by omega]
    · rw [if_neg (fun h => hf h.1)]
      have := survF_ne keep F i p f hf
      rw [this]
end DkSpec
namespace JnSpec
open CodeSpec DkSpec
theorem Dm.iff : ∀ {x y : Bytes}, Dm x y ↔ y.length ≤ x.length ∧ ∀ i : Nat, y.getD i 0 = x.getD i 0 ∨ y.getD i 0 = 0
  | x, [] => by simp [Dm]
  | [], b :: y => by simp [Dm]
  | a :: x, b :: y => by
    unfold Dm
    rw [Dm.iff (x := x) (y := y)]
    constructor
    · rintro ⟨h1, h2, h3⟩
      refine ⟨by simp only [List.length_cons]; omega, fun i => ?_⟩
      cases i with
      | zero => simpa using h1
      | succ i => simpa using h3 i
    · rintro ⟨h1, h2⟩
      refine ⟨by simpa using h2 0, by simpa using h1, fun i => by simpa using h2 (i + 1)⟩
theorem pre_iff : ∀ {p z : Bytes}, p <+: z ↔ p.length ≤ z.length ∧ ∀ i : Nat, i < p.length → z.getD i 0 = p.getD i 0
  | [], z => by simp
  | a :: p, [] => by simp
  | a :: p, b :: z => by
    rw [List.cons_prefix_cons, pre_iff (p := p) (z := z)]
    constructor
    · rintro ⟨h1, h2, h3⟩
      refine ⟨by simp only [List.length_cons]; omega, fun i hi => ?_⟩
      cases i with
      | zero => simpa using h1.symm
      | succ i => simpa using h3 i (by simpa using hi)
    · rintro ⟨h1, h2⟩
      refine ⟨by simpa using (h2 0 (by simp)).symm, by simpa using h1, fun i hi => by simpa using h2 (i + 1) (by simpa using hi)⟩
def Ok (all sure : List Bs) (z : Bs) : Prop := Dm (formL all) z ∧ formL sure <+: z
variable {all sure : List Bs} {f : Int} {A : Ab}
theorem Ok.put {x y : Bs} (hx : Ok all sure x) (hy : Ok all sure y) (n : Nat) : Ok all sure (putB y (64 * n) (sector x n)) := by
  have hl := sector_len x n
  have hp := putB_length y (64 * n) (sector x n)
  obtain ⟨x1, x2⟩ := hx
  obtain ⟨y1, y2⟩ := hy
  rw [Dm.iff] at x1 y1
  rw [pre_iff] at x2 y2
  have hle : (putB y (64 * n) (sector x n)).length ≤ max y.length x.length ∧ y.length ≤ (putB y (64 * n) (sector x n)).length := by
    split at hp
    · omega
    · rename_i hne
      have := List.length_pos_iff.2 hne
      omega
  have hg : ∀ i, (putB y (64 * n) (sector x n)).getD i 0 = y.getD i 0 ∨ (i < x.length ∧ (putB y (64 * n) (sector x n)).getD i 0 = x.getD i 0) := fun i => by
    rw [putB_getD]
    split
    · rename_i h
      right
      rw [sector_getD _ _ _ (by omega)]
      have e : 64 * n + (i - 64 * n) = i := by omega
      rw [e]
      exact ⟨by omega, rfl⟩
    · exact .inl rfl
  constructor
  · rw [Dm.iff]
    refine ⟨by omega, fun i => ?_⟩
    rcases hg i with h | ⟨_, h⟩ <;> rw [h]
    · exact y1.2 i
    · exact x1.2 i
  · rw [pre_iff]
    refine ⟨by omega, fun i hi => ?_⟩
    rcases hg i with h | ⟨_, h⟩ <;> rw [h]
    · exact y2.2 i hi
    · exact x2.2 i hi
theorem Ok.putAll {x : Bs} (hx : Ok all sure x) : ∀ (ns : List Nat) {y : Bs}, Ok all sure y → Ok all sure (putAll x y ns)
  | [], _, hy => hy
  | n :: ns, _, hy => Ok.putAll hx ns (hx.put hy n)
structure GoodJ (f : Int) (A : Ab) (all sure : List Bs) : Prop where
  wf : WF A
  few : Few all
  sub : sure <+: all
  x : Ok all sure (A.F f).1
  y : Ok all sure (A.F f).2
theorem Few.sub {l m : List Bs} (h : Few m) (hs : l <+: m) : Few l := fun t ht => h t (hs.subset ht)
theorem GoodJ.same (h : GoodJ f A all sure) {B : Ab} (hw : WF B) (hF : B.F f = A.F f) : GoodJ f B all sure := ⟨hw, h.few, h.sub, by rw [hF]; exact h.x, by rw [hF]; exact h.y⟩
theorem GoodJ.crash (h : GoodJ f A all sure) (keep : List Int) : GoodJ f (crashA A keep) all sure := by
  have hw := crashA_wf h.wf keep
  unfold crashA at hw ⊢
  split
  · exact h
  · have : Ok all sure (survAll keep A.F 0 A.queue f).2 := by
      rw [survAll_putAll keep A.queue A.F 0 f (fun p hp => (h.wf.qr p hp).2.2.1)]
      exact h.x.putAll _ h.y
    rename_i hd
    rw [if_neg hd] at hw
    exact ⟨hw, h.few, h.sub, this, this⟩
theorem GoodJ.ends (h : GoodJ f A all sure) : GoodJ f (endsA A).2 all sure := h.same (endsA_wf h.wf) (by rw [(endsA_same A).1])
theorem GoodJ.comes (h : GoodJ f A all sure) : GoodJ f (comesA A) all sure := by
  unfold comesA
  split
  · exact h.ends.crash _
  · exact h.ends
theorem GoodJ.settle (h : GoodJ f A all sure) {s : Bs} (hs : Ok all sure s) (hl : s.length ≤ 16777216) : GoodJ f (settleA A f s) all sure := by
  have e : (settleA A f s).F f = (s, s) := setF_same _ _ _
  exact ⟨settleA_wf h.wf f s hl, h.few, h.sub, by rw [e]; exact hs, by rw [e]; exact hs⟩
theorem GoodJ.sync (h : GoodJ f A all sure) : GoodJ f (syncA A f).2 all sure := by
  have h1 := h.comes
  have hw := syncA_wf h.wf f
  unfold syncA at hw ⊢
  split
  · exact h1
  · rename_i hm
    rw [if_neg hm] at hw
    split
    · rename_i hl
      rw [if_pos hl] at hw
      exact h1.same hw rfl
    · exact h1.settle h1.x (h1.wf.sz f).1
theorem Ok.more {z : Bs} (h : Ok all sure z) (t : Bs) : Ok (all ++ [t]) sure z := by
  refine ⟨?_, h.2⟩
  have h1 := h.1
  rw [Dm.iff] at h1 ⊢
  rw [formL_append, List.length_append]
  refine ⟨by omega, fun i => ?_⟩
  by_cases hi : i < (formL all).length
  · have : (formL all ++ formL [t]).getD i 0 = (formL all).getD i 0 := by
      simp only [List.getD_eq_getElem?_getD]
      rw [List.getElem?_append_left hi]
    rw [this]; exact h1.2 i
  · right
    simp only [List.getD_eq_getElem?_getD]
    rw [List.getElem?_eq_none (by omega)]
    rfl
theorem GoodJ.more (h : GoodJ f A all sure) {t : Bs} (ht : t.length ≤ 20000) : GoodJ f A (all ++ [t]) sure :=
  ⟨h.wf, fun x hx => by
    rcases List.mem_append.1 hx with hx | hx
    · exact h.few x hx
    · simp only [List.mem_singleton] at hx
      rw [hx]; exact ht, h.sub.trans (List.prefix_append _ _), h.x.more t, h.y.more t⟩
theorem Ok.own {l sure : List Bs} (hs : sure <+: l) : Ok l sure (formL l) := by
  refine ⟨Dm.refl _, ?_⟩
  obtain ⟨m, rfl⟩ := hs
  rw [formL_append]
  exact List.prefix_append _ _
structure Jn where
  recs : List Bs
  bytes : Nat
  broken : Bool
def openB (B : Ab) (f : Int) (r : Bs × Int) : Option Jn × Int × Ab :=
  if r.2 ≠ 0 then (none, r.2, B)
  else if (readJ r.1).2 < r.1.length then
    if (truncA B f (readJ r.1).2).1 ≠ 0 then (none, (truncA B f (readJ r.1).2).1, (truncA B f (readJ r.1).2).2)
    else (some ⟨(readJ r.1).1, (readJ r.1).2, false⟩, 0, (truncA B f (readJ r.1).2).2)
  else (some ⟨(readJ r.1).1, (readJ r.1).2, false⟩, 0, B)
def openJ (A : Ab) (f : Int) : Option Jn × Int × Ab :=
  if f < 0 ∨ 15 < f then (none, 1, A)
  else if (syncA A f).1 ≠ 0 then (none, (syncA A f).1, (syncA A f).2)
  else openB (syncA A f).2 f (readA (syncA A f).2 f 0 (((syncA A f).2.F f).1.length : Nat))
def appendJ (A : Ab) (f : Int) (j : Jn) (t : Bs) : Int × Ab × Jn :=
  if j.broken = true then (7, A, j)
  else if 20000 < t.length then (3, A, j)
  else if 1048576 < j.bytes + (form t).length then (6, A, j)
  else if (writeA A f j.bytes (form t)).1 ≠ 0 then ((writeA A f j.bytes (form t)).1, (writeA A f j.bytes (form t)).2, { j with broken := true })
  else (0, (writeA A f j.bytes (form t)).2, ⟨j.recs ++ [t], j.bytes + (form t).length, false⟩)
def syncJ (A : Ab) (f : Int) (j : Jn) : Int × Ab × Jn :=
  if j.broken = true then (7, A, j) else ((syncA A f).1, (syncA A f).2, { j with broken := decide ((syncA A f).1 ≠ 0) })
structure Live (f : Int) (A : Ab) (j : Jn) (all sure : List Bs) : Prop where
  good : GoodJ f A all sure
  recs : all = j.recs
  pre : sure <+: j.recs
  x : (A.F f).1 = formL j.recs
  bytes : j.bytes = (formL j.recs).length
  up : A.down = false
end JnSpec
namespace JnSpec
open CodeSpec DkSpec
variable {all sure : List Bs} {f : Int} {A : Ab} {j : Jn}
def LJ (f : Int) (A : Ab) (j : Jn) (all sure : List Bs) : Prop := (j.broken = false ∧ Live f A j all sure) ∨ (j.broken = true ∧ GoodJ f A all sure)
theorem LJ.good (h : LJ f A j all sure) : GoodJ f A all sure := h.elim (fun h => h.2.good) (fun h => h.2)
theorem putB_end (s t : Bs) (ht : t ≠ []) : putB s s.length t = s ++ t := by
  unfold putB
  rw [if_neg ht]
  have e : s.length + t.length - s.length = t.length := by omega
  rw [e, List.take_left', List.drop_eq_nil_of_le (by simp), List.append_nil]
  rfl
theorem Live.add (h : Live f A j all sure) (hf : 0 ≤ f ∧ f ≤ 15) {t : Bs} (ht : t.length ≤ 20000) (hb : j.bytes + (form t).length ≤ 1048576) {A' : Ab} (hF : A'.F = A.F) (hw : WF A') (hd : A'.down = A.down) :
    Live f (addA A' f j.bytes (form t)) ⟨j.recs ++ [t], j.bytes + (form t).length, false⟩ (all ++ [t]) sure := by
  have hne : form t ≠ [] := List.length_pos_iff.1 (form_pos t)
  have hw2 := addA_wf hw f j.bytes (form t) (by omega) (by omega)
  have e : (addA A' f j.bytes (form t)).F f = (formL (j.recs ++ [t]), (A.F f).2) := by
    unfold addA
    rw [if_neg hne]
    show setF A'.F f _ f = _
    rw [setF_same, hF, h.x, h.bytes, putB_end _ _ hne, formL_append]
    simp [formL]
  have hg := h.good.more ht
  refine ⟨⟨hw2, hg.few, hg.sub, ?_, ?_⟩, by rw [h.recs], h.pre.trans (List.prefix_append _ _), by rw [e], ?_, ?_⟩
  · rw [e, h.recs]; exact Ok.own (h.pre.trans (List.prefix_append _ _))
  · rw [e]; exact hg.y
  · dsimp only
    rw [formL_append, List.length_append, h.bytes]
    simp [formL]
  · have : (addA A' f j.bytes (form t)).down = A'.down := by
      unfold addA; rw [if_neg hne]
    rw [this, hd]; exact h.up
theorem Live.same (h : Live f A j all sure) {B : Ab} (hg : GoodJ f B all sure) (hF : B.F = A.F) (hd : B.down = A.down) : Live f B j all sure := ⟨hg, h.recs, h.pre, by rw [hF]; exact h.x, h.bytes, by rw [hd]; exact h.up⟩
end JnSpec
namespace JnSpec
open CodeSpec
theorem sumFrom_append (a b : Bytes) : ∀ i : Nat, sumFrom i (a ++ b) = sumFrom i a + sumFrom (i + a.length) b := by
  induction a with
  | nil => intro i; simp [sumFrom]
  | cons c a ih =>
    intro i
    simp only [List.cons_append, sumFrom, List.length_cons]
    rw [ih (i + 1)]
    have : i + 1 + a.length = i + (a.length + 1) := by omega
    rw [this]
    omega
theorem sum_take (s : Bytes) (i : Nat) (h : i < s.length) : sumR (s.take (i + 1)) = sumR (s.take i) + (s[i].toNat : Int) * ((i : Int) + 1) := by
  have e : s.take (i + 1) = s.take i ++ [s[i]] := by rw [List.take_add_one, List.getElem?_eq_getElem h]; rfl
  unfold sumR
  have hl : (s.take i).length = i := by rw [List.length_take]; omega
  rw [e, sumFrom_append, Nat.zero_add, hl]
  simp only [sumFrom]
  omega
theorem sum_take_bound {s : Bytes} (hs : s.length ≤ 16777216) (i : Nat) : 0 ≤ sumR (s.take i) ∧ sumR (s.take i) < 9223372036854775807 := by
  have h1 := sumR_InR (s := s.take i) (by rw [List.length_take]; omega)
  have h2 := sumR_bound (s.take i)
  have h3 := sq_le (n := (s.take i).length) (m := 16777216) (by rw [List.length_take]; omega)
  have : (255 : Int) * (16777216 : Nat) * (16777216 : Nat) < 9223372036854775807 := by decide
  exact ⟨h1.2, by omega⟩
theorem form_len {s : Bytes} (hs : s.length ≤ 16777216) : (form s).length ≤ s.length + 64 := by
  have h1 := (sumR_InR hs)
  have h2 := decDigits_len s.length 20 (by omega) (by omega)
  have h3 := decDigits_len (sumR s).toNat 20 (by omega) (by have := h1.1.2; omega)
  have e1 : Go.Lib.itoa (s.length : Int) = Go.Lib.decDigits s.length := by
    unfold Go.Lib.itoa
    rw [if_neg (by omega)]
    simp
  have e2 : Go.Lib.itoa (sumR s) = Go.Lib.decDigits (sumR s).toNat := by
    unfold Go.Lib.itoa
    rw [if_neg (by omega)]
  rw [form_split]
  simp only [List.length_append, List.length_cons, List.length_nil, e1, e2]
  omega
end JnSpec
namespace Go.Proofs
open Go Go.Sh Go.RowKit CodeSpec JnSpec
set_option linter.unusedSimpArgs false
set_option linter.unusedVariables false
set_option maxRecDepth 10000
section
variable {K : Value → World → Prop} {w w0 : World} {L : List (Addr × Value)}
def SuJ (s : List UInt8) (w0 : World) (vs : List Value) (w' : World) : Prop := w' = w0 ∧ ∃ (u : Value) (i : Nat), vs = [u, .int .i64 (sumR (s.take i)), .int .i64 (i : Int)] ∧ i ≤ s.length
def suMu (n : Nat) : List Value → World → Nat
  | [_, _, .int _ i], _ => n - i.toNat
  | _, _ => 0
theorem suMu_eq (n : Nat) (a b : Value) (k : IntKind) (i : Int) (w : World) : suMu n [a, b, .int k i] w = n - i.toNat := rfl
theorem Sum_ok (s : List UInt8) (hs : s.length ≤ 16777216) (k : K (.int .i64 (sumR s)) w) : callM Tryz.prog 10 #[.string ⟨s.toArray⟩] K w := by
  apply sh_10_ok
  unfold sh_10
  repeat (any_goals ((with_reducible refine idO ?_); (with_reducible refine oM_gen fun Kv hK=>?_); simp [go_sem]; refine hK _ _ ?_; clear hK; clear Kv))
  refine ⟨SuJ s w, suMu s.length, ⟨rfl, undef, 0, rfl, by omega⟩, ?_⟩
  rintro _ _ _ ⟨rfl, u, i, rfl, hi⟩
  by_cases hin : i = s.length
  · rw [List.take_of_length_le (by omega)]
    repeat (any_goals (first
    | (with_reducible ((refine idCond ?_); refine yO ?_))
    | ((with_reducible refine idO ?_); (with_reducible refine oM_gen fun Kv hK=>?_); simp [go_sem]; refine hK _ _ ?_; clear hK; clear Kv)))
    exact k
  have hlt : i < s.length := by omega
  have hb := sum_take_bound hs (i + 1)
  have hb0 := sum_take_bound hs i
  rw [sum_take s i hlt] at hb
  repeat (any_goals (first
  | (with_reducible ((refine idCond ?_); refine yN ?_))
  | ((with_reducible refine idO ?_); (with_reducible refine oM_gen fun Kv hK=>?_); simp [go_sem]; (try simp (disch := omega) only [wrapI64, wrapU8, wrapU32, wrapU64]); (first|refine hK _ _ ?_|refine And.intro (by omega) (hK _ _ ?_)); clear hK; clear Kv)))
  have ec : s[i]?.getD 0 = s[i] := by rw [List.getElem?_eq_getElem hlt]; rfl
  have hst := sum_take s i hlt
  rw [ec]
  have hc := s[i].toNat_lt
  generalize s[i].toNat = c at *
  have hp : 0 ≤ (c : Int) * ((i : Int) + 1) := Int.mul_nonneg (by omega) (by omega)
  have e1 : IntKind.i64.wrap (c : Int) = c := by rw [wrapI64] <;> omega
  rw [e1]
  generalize (c : Int) * ((i : Int) + 1) = p at *
  have e2 : IntKind.i64.wrap p = p := by rw [wrapI64] <;> omega
  rw [e2]
  have e3 : IntKind.i64.wrap (sumR (s.take i) + p) = sumR (s.take i) + p := by rw [wrapI64] <;> omega
  rw [e3, ← hst]
  refine ⟨⟨rfl, _, i + 1, rfl, by omega⟩, ?_⟩
  simp only [suMu_eq]; omega
theorem form_ok (s : List UInt8) (hs : s.length ≤ 16777216) (hl : Cd.Laid w) (k : ∀ w', Below w.heap.size w w' → K (.string ⟨(form s).toArray⟩) w') : callM Tryz.prog 40 #[.string ⟨s.toArray⟩] K w := by
  apply sh_40_ok
  unfold sh_40
  refine Cd.pText_ok s (by omega) hl (fun w1 h1 => ?_)
  refine Sum_ok s hs ?_
  refine Cd.pNum_ok (sumR s) (sumR_InR hs).1 (hl.below h1 hl.size) (fun w2 h2 => ?_)
  have h1l := Cd.encText_len s (by omega)
  have h3 := form_len hs
  have h4 : (form s).length = (encText s).length + (encNum (sumR s)).length := by simp [form]
  repeat (any_goals ((with_reducible refine idO ?_); (with_reducible refine oM_gen fun Kv hK=>?_); simp [go_sem]; refine And.intro (by omega) (hK _ _ ?_); clear hK; clear Kv))
  exact Cd.K_eq (k _ (h1.trans (h2.mono h1.size))) (by simp [form])
end
end Go.Proofs
namespace Go.Proofs
open Go Go.Sh Go.RowKit CodeSpec JnSpec Go.Lib
set_option linter.unusedSimpArgs false
set_option linter.unusedVariables false
set_option maxRecDepth 10000
theorem below_own {w w2 w3 : World} {B : Nat} {e : TypeId} {sz n : Nat} {v : Value} {xs : List Value} (h : Below B w w2) (hown : w2.ownsRow B e sz v n xs) (hB : B ≤ w2.heap.size) (hg : w2.grownBy w3 v.ownBlock) : Below B w w3 :=
  h.trans (Cd.below_of_grown hg hB (fun k hk => by
    rcases hown.2 with ⟨rfl, _⟩ | ⟨g, cap, cur, rfl, hb, _⟩
    · cases hk
    · simp [Value.ownBlock] at hk; omega))
theorem rdText_le (s : List UInt8) : (rdText ⟨s, false⟩).1.length ≤ s.length := by
  rcases rdText_some ⟨s, false⟩ Rd.ok_good with h | ⟨t, u, h, h2, _⟩
  · rw [h]; simp
  · rw [h]
    have := congrArg (fun r => r.rest.length) h2
    simp [encText] at this ⊢
    omega
theorem rdText_rest_le (s : List UInt8) : (rdText ⟨s, false⟩).2.rest.length ≤ s.length := by
  rcases rdText_some ⟨s, false⟩ Rd.ok_good with h | ⟨t, u, h, h2, _⟩
  · rw [h]; simp [failed]
  · rw [h]
    have := congrArg (fun r => r.rest.length) h2
    simp [encText] at this ⊢
    omega
section
variable {K : Value → World → Prop} {w w0 : World}
def RdJ (s : List UInt8) (w : World) (vs : List Value) (w' : World) : Prop := ∃ (a b c d e v : Value) (n : Nat) (xs : List (List UInt8)), vs = [a, b, c, d, e, v, .int .i64 (n : Int)] ∧ n ≤ s.length ∧ w'.ownsRow w.heap.size 9 1 v xs.length (xs.map Cd.strV) ∧ Below w.heap.size w w' ∧ readJ s = (xs ++ (readJ (s.drop n)).1, n + (readJ (s.drop n)).2) ∧ xs.length ≤ n
def RdE (s : List UInt8) (w : World) (vs : List Value) (w' : World) : Prop := ∃ (a b c d e v : Value), vs = [a, b, c, d, e, v, .int .i64 (((readJ s).2 : Nat) : Int)] ∧ w'.ownsRow w.heap.size 9 1 v (readJ s).1.length ((readJ s).1.map Cd.strV) ∧ Below w.heap.size w w'
def rdMu (m : Nat) : List Value → World → Nat
  | [_, _, _, _, _, _, .int _ i], _ => m - i.toNat
  | _, _ => 0
theorem rdMu_eq (m : Nat) (a b c d e v : Value) (k : IntKind) (i : Int) (w : World) : rdMu m [a, b, c, d, e, v, .int k i] w = m - i.toNat := rfl
theorem readJ_ok (s : List UInt8) (hs : s.length ≤ 16777216) (hl : Cd.Laid w) (k : ∀ v w', w'.ownsRow w.heap.size 9 1 v (readJ s).1.length ((readJ s).1.map Cd.strV) → Below w.heap.size w w' → K (.tuple #[v, .int .i64 (readJ s).2]) w') : callM Tryz.prog 34 #[.string ⟨s.toArray⟩] K w := by
  apply sh_34_ok
  unfold sh_34
  skip
  refine ⟨RdE s w, ?_, ?_⟩
  rotate_left
  · rintro _ _ w2 ⟨_, _, _, _, _, v, rfl, hown, hb⟩
    simp only [List.getD_cons_zero, List.getD_cons_succ]
    exact k v w2 hown hb
  refine ⟨RdJ s w, rdMu s.length, ⟨_, _, _, _, _, _, 0, [], rfl, by omega, World.ownsRow_nil _ _ _ _, Below.refl _ _, by simp, by simp⟩, ?_⟩
  rintro _ _ w2 ⟨_, _, _, _, _, v, n, xs, rfl, hn, hown, hb2, hrd, hxn⟩
  simp only [List.getD_cons_zero, List.getD_cons_succ]
  have hz2 := hb2.size
  by_cases hlt : n < s.length
  · have hdl : (s.drop n).length = s.length - n := by simp
    have htl : List.take s.length s = s := List.take_length
    repeat (any_goals (first
    | (with_reducible ((refine idCond ?_); refine yN ?_))
    | ((with_reducible refine idO ?_); (with_reducible refine oM_gen fun Kv hK=>?_); simp [go_sem, htl]; (first|refine hK _ _ ?_|refine And.intro (by omega) (hK _ _ ?_)); clear hK; clear Kv)))
    refine Cd.open_ok _ (fun w3 hr3 hb3 => ?_)
    have hb23 := hb2.trans (hb3.mono hz2)
    have hz3 := hb3.size
    have hlt3 := hr3.lt
    have hl3 : Cd.Laid w3 := hl.below hb23 hl.size
    have hown3 := hown.kept (Cd.grown_of_below hb3 none) (by
      rcases hown.2 with ⟨rfl, _⟩ | ⟨g, cap, cur, rfl, _⟩
      · left; rfl
      · right; simp [Value.ownBlock])
    refine Cd.rtext_ok _ _ hl3 (by simp; omega) hr3 (fun w4 hr4 hg4 => ?_)
    have ht := rdText_le (s.drop n)
    have ht2 := rdText_rest_le (s.drop n)
    have hb4 : Below w2.heap.size w3 w4 := Cd.below_of_grown hg4 (by omega) (fun k hk => by cases hk; omega)
    have hz4 := hb4.size
    have hl4 : Cd.Laid w4 := hl3.below (hb4.mono hz2) hl.size
    refine Cd.rnum_ok _ _ hl4 (by omega) hr4 (fun w5 hr5 hg5 => ?_)
    have hb5 : Below w2.heap.size w4 w5 := Cd.below_of_grown hg5 (by omega) (fun k hk => by cases hk; omega)
    have hz5 := hb5.size
    have hl5 : Cd.Laid w5 := hl4.below (hb5.mono hz2) hl.size
    obtain ⟨t, et⟩ : ∃ t, t = (rdText ⟨s.drop n, false⟩).1 := ⟨_, rfl⟩
    obtain ⟨m, em⟩ : ∃ m, m = (rdNum (rdText ⟨s.drop n, false⟩).2).1 := ⟨_, rfl⟩
    rw [← et, ← em]
    rw [← et] at ht
    refine form_ok t (by omega) hl5 (fun w6 hb6 => ?_)
    have hfl := form_len (s := t) (by omega)
    have hfp := form_pos t
    have hz6 := hb6.size
    have hb36 : Below w2.heap.size w2 w6 := (hb3.trans (hb4.trans (hb5.trans (hb6.mono (by omega)))))
    have hown6 := hown.kept (Cd.grown_of_below hb36 none) (by
      rcases hown.2 with ⟨rfl, _⟩ | ⟨g, cap, cur, rfl, _⟩
      · left; rfl
      · right; simp [Value.ownBlock])
    have hb06 := hb2.trans (hb36.mono hz2)
    have hf1 : first (s.drop n) = if bad1 (s.drop n) t m then none else some t := by rw [et, em]; rfl
    refine ⟨fun vs w' => vs = [.bool (decide (bad1 (s.drop n) t m))] ∧ w' = w6, ?_, ?_⟩
    · by_cases h1 : 20000 < t.length
      · have hb : bad1 (s.drop n) t m := .inl h1
        repeat (any_goals (first
        | (with_reducible ((refine idCond ?_); refine yN ?_))
        | ((with_reducible refine idO ?_); (with_reducible refine oM_gen fun Kv hK=>?_); simp [go_sem]; refine hK _ _ ?_; clear hK; clear Kv)))
        exact ⟨by simp [hb]; omega, rfl⟩
      · by_cases h2 : m = sumR t
        · have e1 : ¬ (20000 : Int) < t.length := by omega
          repeat (any_goals (first
          | (with_reducible ((refine idCond ?_); refine yO ?_))
          | ((with_reducible refine idO ?_); (with_reducible refine oM_gen fun Kv hK=>?_); simp [go_sem]; refine hK _ _ ?_; clear hK; clear Kv)))
          refine Sum_ok t (by omega) ?_
          by_cases h3 : (s.drop n).length < (form t).length
          · have hb : bad1 (s.drop n) t m := .inr (.inr (.inl h3))
            repeat (any_goals (first
            | (with_reducible ((refine idCond ?_); first|refine yN ?_|refine yR ?_))
            | ((with_reducible refine idO ?_); (with_reducible refine oM_gen fun Kv hK=>?_); simp [go_sem]; (try simp (disch := omega) only [wrapI64, wrapU8, wrapU32, wrapU64]); refine hK _ _ ?_; clear hK; clear Kv)))
            exact ⟨by simp [hb]; omega, rfl⟩
          · have e4 : ((n : Int) + ((form t).length : Int)).toNat = n + (form t).length := by omega
            have e5 : (s.take (n + (form t).length)).drop n = (s.drop n).take (form t).length := by
              rw [List.drop_take]
              congr 1
              omega
            have hb : bad1 (s.drop n) t m ↔ ¬ (s.drop n).take (form t).length = form t := by
              unfold bad1
              constructor
              · rintro (h | h | h | h)
                · exact absurd h h1
                · exact absurd h2 h
                · exact absurd h h3
                · exact h
              · exact fun h => .inr (.inr (.inr h))
            repeat (any_goals (first
            | (with_reducible ((refine idCond ?_); first|refine yO ?_|refine yR ?_))
            | ((with_reducible refine idO ?_); (with_reducible refine oM_gen fun Kv hK=>?_); simp [go_sem]; (try simp (disch := omega) only [wrapI64, wrapU8, wrapU32, wrapU64]); (first|refine hK _ _ ?_|refine And.intro (by omega) (hK _ _ ?_)); clear hK; clear Kv)))
            refine ⟨?_, rfl⟩
            rw [e4, e5]
            simp [hb]
        · have hb : bad1 (s.drop n) t m := .inr (.inl h2)
          repeat (any_goals (first
          | (with_reducible ((refine idCond ?_); refine yO ?_))
          | ((with_reducible refine idO ?_); (with_reducible refine oM_gen fun Kv hK=>?_); simp [go_sem]; refine hK _ _ ?_; clear hK; clear Kv)))
          refine Sum_ok t (by omega) ?_
          repeat (any_goals (first
          | (with_reducible ((refine idCond ?_); refine yQ ?_))
          | ((with_reducible refine idO ?_); (with_reducible refine oM_gen fun Kv hK=>?_); simp [go_sem]; refine hK _ _ ?_; clear hK; clear Kv)))
          exact ⟨by simp [hb]; exact h2, rfl⟩
    · rintro _ _ w7 ⟨rfl, rfl⟩
      simp only [List.getD_cons_zero]
      by_cases hbad : bad1 (s.drop n) t m
      · rw [if_pos hbad] at hf1
        rw [readJ_none hf1] at hrd
        simp only [hbad, decide_true]
        repeat (any_goals (with_reducible ((refine idCond ?_); refine yL ?_)))
        have e2 : (readJ s).2 = n := by rw [hrd]; rfl
        have e3 : (readJ s).1 = xs := by rw [hrd]; simp
        unfold RdE
        rw [e2, e3]
        exact ⟨_, _, _, _, _, v, rfl, hown6, hb06⟩
      · rw [if_neg hbad] at hf1
        have hfs := first_some hf1
        rw [readJ_some hf1] at hrd
        simp only [hbad, decide_false]
        have hl1 := congrArg List.length hfs.2
        rw [List.length_append] at hl1
        have hby : (xs.length + 1) * Tryz.t9.bytes ≤ 140737488355328 := by
          have : Tryz.t9.bytes = 16 := by kernel_rfl
          rw [this]
          omega
        repeat (any_goals (first
        | (with_reducible ((refine idCond ?_); refine yM ?_))
        | ((with_reducible refine idO ?_); (with_reducible refine oM_gen fun Kv hK=>?_); simp [go_sem]; refine hK _ _ ?_; clear hK; clear Kv)))
        refine oM_append_new (base := w.heap.size) (n := xs.length) (xs := xs.map Cd.strV) (i := Tryz.t9) (z := .string ⟨#[]⟩) (cs := #[Cd.strV t]) Tryz.underlying46 (by kernel_rfl) (by kernel_rfl) rfl rfl (by simp) (by simp [Value.oneCell', Cd.strV]) hown6 (by omega) (by unfold maxLen; omega) hby ?_
        intro v' w8 ho8 hg8
        repeat (any_goals ((with_reducible refine idO ?_); (with_reducible refine oM_gen fun Kv hK=>?_); simp [go_sem]; (try simp (disch := omega) only [wrapI64, wrapU8, wrapU32, wrapU64]); refine hK _ _ ?_; clear hK; clear Kv))
        refine ⟨⟨_, _, _, _, _, v', n + (form t).length, xs ++ [t], rfl, by omega, by simpa using ho8, below_own hb06 hown6 (by omega) hg8, ?_, by simp; omega⟩, by simp only [rdMu_eq]; omega⟩
        rw [hrd, List.drop_drop]
        simp [Nat.add_assoc]
  · obtain rfl : n = s.length := by omega
    have e0 : readJ (s.drop s.length) = ([], 0) := by rw [List.drop_length]; exact readJ_none first_nil
    rw [e0] at hrd
    repeat (any_goals (first
    | (with_reducible ((refine idCond ?_); refine yM ?_))
    | ((with_reducible refine idO ?_); (with_reducible refine oM_gen fun Kv hK=>?_); simp [go_sem]; refine hK _ _ ?_; clear hK; clear Kv)))
    have e2 : (readJ s).2 = s.length := by rw [hrd]; rfl
    have e3 : (readJ s).1 = xs := by rw [hrd]; simp
    unfold RdE
    rw [e2, e3]
    exact ⟨_, _, _, _, _, v, rfl, hown, hb2⟩
end
end Go.Proofs
namespace Go.Proofs
open Go Go.Sh Go.RowKit DkSpec
set_option linter.unusedSimpArgs false
set_option maxRecDepth 10000
@[reducible] def bsV (s : Bs) : Value := .string ⟨s.toArray⟩
def flV (x : Bs × Bs) : Value := .agg #[bsV x.1, bsV x.2]
def i64V (n : Int) : Value := .int .i64 n
def secV (p : Int × Int) : Value := .agg #[.int .i64 p.1, .int .i64 p.2]
def secC (p : Int × Int) : List Value := [.int .i64 p.1, .int .i64 p.2]
theorem keyI : KeyOK Tryz.prog 3 i64V := keyInt (by kernel_rfl)
theorem keyS : KeyOK Tryz.prog 76 secV where
  find := fun w k es ks h => by
    refine (run_findKey_eq w (by kernel_rfl) _ _).trans ?_
    have := findAsk_pair (P := Tryz.prog) (kt := 76) secV (fun w a b => by
      simp [Op.equal, Op.maxDepth, secV, go_sem]
      obtain ⟨a1, a2⟩ := a
      obtain ⟨b1, b2⟩ := b
      by_cases h1 : a1 = b1 <;> by_cases h2 : a2 = b2 <;> simp [h1, h2]) w k es ks 0 h
    simpa using this
  check := fun b w k => by
    have h : ∀ n, (Instr.checkKey b (n + 2) 76 (secV k)).run Tryz.prog w = .ok () w := by
      intro n
      simp [Instr.checkKey, secV, go_sem]
    exact h 9998
  same := fun k => by simp [secV, Instr.sameBits]
structure Dk where
  fm : Nat
  sm : Nat
  q : Value
  kp : Value
def dkCells (A : Ab) (h : Dk) : Array Value := #[.map (some h.fm), h.q, .map (some h.sm), .int .i64 A.lost, .bool A.down, .int .i64 A.armed, h.kp]
structure IsDk (w : World) (b : Nat) (A : Ab) (h : Dk) : Prop where
  blk : w.heap[b]? = some (.cells (dkCells A h) 60 (0, 0))
  files : ∃ l, MapIs i64V w h.fm l ∧ ∀ f, (lookA l f).getD (flV ([], [])) = flV (A.F f)
  set : ∃ sl, MapIs secV w h.sm sl ∧ ∀ p, lookA sl p = if p ∈ A.queue then some (.bool true) else none
  que : w.ownsRow 0 76 2 h.q A.queue.length (flat secC A.queue)
  kep : w.ownsRow 0 3 1 h.kp A.keep.length (A.keep.map i64V)
  ne : h.fm ≠ h.sm
  wf : WF A
def Own (b : Nat) (h : Dk) (i : Nat) : Prop := i = b ∨ i = h.fm ∨ i = h.sm ∨ h.q.ownBlock = some i
def Rdb (h : Dk) (i : Nat) : Prop := h.kp.ownBlock = some i
structure Step (w : World) (b : Nat) (h : Dk) (w' : World) (h' : Dk) : Prop where
  fr : Fr (Own b h) w w'
  own : ∀ i, Own b h' i → Own b h i ∨ w.heap.size ≤ i
  rd : ∀ i, Rdb h' i → Rdb h i ∨ w.heap.size ≤ i
theorem Step.refl (w : World) (b : Nat) (h : Dk) : Step w b h w h := ⟨Fr.refl _ _, fun _ h => .inl h, fun _ h => .inl h⟩
theorem Step.trans {w w1 w2 : World} {b : Nat} {h h1 h2 : Dk} (a : Step w b h w1 h1) (c : Step w1 b h1 w2 h2) : Step w b h w2 h2 :=
  ⟨a.fr.trans c.fr a.own, fun i hi => (c.own i hi).elim (a.own i) (fun h => .inr (Nat.le_trans a.fr.size h)), fun i hi => (c.rd i hi).elim (a.rd i) (fun h => .inr (Nat.le_trans a.fr.size h))⟩
section
variable {w w' : World} {b : Nat} {A : Ab} {h : Dk}
theorem IsDk.lt (d : IsDk w b A h) {i : Nat} (hi : Own b h i ∨ Rdb h i) : i < w.heap.size := by
  rcases hi with (rfl | rfl | rfl | hi) | hi
  · exact (Array.getElem?_eq_some_iff.1 d.blk).1
  · obtain ⟨l, hl, _⟩ := d.files; exact hl.lt
  · obtain ⟨l, hl, _⟩ := d.set; exact hl.lt
  · exact (owns_own d.que hi).1
  · exact (owns_own d.kep hi).1
theorem IsDk.keep (d : IsDk w b A h) (hk : ∀ i, Own b h i ∨ Rdb h i → w'.heap[i]? = w.heap[i]?) : IsDk w' b A h := by
  refine ⟨?_, ?_, ?_, owns_keep d.que (fun i hi => hk i (.inl (.inr (.inr (.inr hi))))), owns_keep d.kep (fun i hi => hk i (.inr hi)), d.ne, d.wf⟩
  · rw [hk b (.inl (.inl rfl))]; exact d.blk
  · obtain ⟨l, hl, h2⟩ := d.files
    exact ⟨l, hl.of_block (hk _ (.inl (.inr (.inl rfl)))), h2⟩
  · obtain ⟨l, hl, h2⟩ := d.set
    exact ⟨l, hl.of_block (hk _ (.inl (.inr (.inr (.inl rfl))))), h2⟩
theorem MapIs.isMap {κ : Type} {mk : κ → Value} {i : Nat} {l : List (κ × Value)} (h : MapIs mk w i l) : ∃ es c, w.heap[i]? = some (.map es c) := by
  obtain ⟨es, c, h, _⟩ := h; exact ⟨es, c, h⟩
theorem IsDk.bfm (d : IsDk w b A h) : b ≠ h.fm := by
  obtain ⟨l, hl, _⟩ := d.files
  obtain ⟨es, c, h1⟩ := MapIs.isMap hl
  intro e
  have h2 := d.blk
  rw [e, h1] at h2; cases h2
theorem IsDk.bsm (d : IsDk w b A h) : b ≠ h.sm := by
  obtain ⟨l, hl, _⟩ := d.set
  obtain ⟨es, c, h1⟩ := MapIs.isMap hl
  intro e
  have h2 := d.blk
  rw [e, h1] at h2; cases h2
theorem IsDk.qne (d : IsDk w b A h) {i : Nat} (hi : h.q.ownBlock = some i) : i ≠ b ∧ i ≠ h.fm ∧ i ≠ h.sm := by
  obtain ⟨_, _, cur, hc⟩ := owns_own d.que hi
  refine ⟨?_, ?_, ?_⟩
  · rintro rfl; rw [d.blk] at hc; cases hc
  · rintro rfl
    obtain ⟨l, hl, _⟩ := d.files
    obtain ⟨es, c, h1⟩ := MapIs.isMap hl
    rw [h1] at hc; cases hc
  · rintro rfl
    obtain ⟨l, hl, _⟩ := d.set
    obtain ⟨es, c, h1⟩ := MapIs.isMap hl
    rw [h1] at hc; cases hc
theorem IsDk.kne (d : IsDk w b A h) {i : Nat} (hi : h.kp.ownBlock = some i) : i ≠ b ∧ i ≠ h.fm ∧ i ≠ h.sm ∧ h.q.ownBlock ≠ some i := by
  obtain ⟨_, _, cur, hc⟩ := owns_own d.kep hi
  refine ⟨?_, ?_, ?_, ?_⟩
  · rintro rfl; rw [d.blk] at hc; cases hc
  · rintro rfl
    obtain ⟨l, hl, _⟩ := d.files
    obtain ⟨es, c, h1⟩ := MapIs.isMap hl
    rw [h1] at hc; cases hc
  · rintro rfl
    obtain ⟨l, hl, _⟩ := d.set
    obtain ⟨es, c, h1⟩ := MapIs.isMap hl
    rw [h1] at hc; cases hc
  · intro hq
    obtain ⟨_, _, cur', hc'⟩ := owns_own d.que hq
    rw [hc] at hc'; cases hc'
theorem IsDk.cells (d : IsDk w b A h) {A' : Ab} (hF : A'.F = A.F) (hq : A'.queue = A.queue) (hk : A'.keep = A.keep) (hw : WF A') (hb : w'.heap[b]? = some (.cells (dkCells A' h) 60 (0, 0))) (ho : ∀ i, i ≠ b → w'.heap[i]? = w.heap[i]?) : IsDk w' b A' h := by
  refine ⟨hb, ?_, ?_, ?_, ?_, d.ne, hw⟩
  · obtain ⟨l, hl, h2⟩ := d.files
    exact ⟨l, hl.of_block (ho _ d.bfm.symm), by rw [hF]; exact h2⟩
  · obtain ⟨l, hl, h2⟩ := d.set
    exact ⟨l, hl.of_block (ho _ d.bsm.symm), by rw [hq]; exact h2⟩
  · rw [hq]; exact owns_keep d.que (fun i hi => ho i (d.qne hi).1)
  · rw [hk]; exact owns_keep d.kep (fun i hi => ho i (d.kne hi).1)
theorem IsDk.c (d : IsDk w b A h) (i : Nat) : w.cell? ⟨b, i, none⟩ = (dkCells A h)[i]? := cell_of_block d.blk i
theorem IsDk.fz (d : IsDk w b A h) (i : Nat) : w.frozen? ⟨b, i, none⟩ = false := frozen_of_block d.blk i
theorem IsDk.set3 (d : IsDk w b A h) (n : Int) (hn : 0 ≤ n ∧ n < 2 ^ 63) : IsDk (w.setCell ⟨b, 3, none⟩ (.int .i64 n)) b { A with lost := n } h :=
  d.cells rfl rfl rfl ⟨hn.1, hn.2, d.wf.a0, d.wf.a1, d.wf.nd, d.wf.qr, d.wf.sz, d.wf.kr, d.wf.kl⟩ (by rw [block_set d.blk]; rfl) (fun i hi => setCell_heap_ne _ _ _ _ hi)
theorem IsDk.set4 (d : IsDk w b A h) (t : Bool) : IsDk (w.setCell ⟨b, 4, none⟩ (.bool t)) b { A with down := t } h :=
  d.cells rfl rfl rfl ⟨d.wf.l0, d.wf.l1, d.wf.a0, d.wf.a1, d.wf.nd, d.wf.qr, d.wf.sz, d.wf.kr, d.wf.kl⟩ (by rw [block_set d.blk]; rfl) (fun i hi => setCell_heap_ne _ _ _ _ hi)
theorem IsDk.set5 (d : IsDk w b A h) (n : Int) (hn : 0 ≤ n ∧ n < 2 ^ 63) : IsDk (w.setCell ⟨b, 5, none⟩ (.int .i64 n)) b { A with armed := n } h :=
  d.cells rfl rfl rfl ⟨d.wf.l0, d.wf.l1, hn.1, hn.2, d.wf.nd, d.wf.qr, d.wf.sz, d.wf.kr, d.wf.kl⟩ (by rw [block_set d.blk]; rfl) (fun i hi => setCell_heap_ne _ _ _ _ hi)
theorem step_set (w : World) (b i : Nat) (h : Dk) (u : Value) : Step w b h (w.setCell ⟨b, i, none⟩ u) h := ⟨(Fr.refl _ _).set _ _ (.inl (.inl rfl)), fun _ h => .inl h, fun _ h => .inl h⟩
theorem IsDk.look (d : IsDk w b A h) (f : Int) : (Instr.lookup 56 (.map (some h.fm)) (.int .i64 f) false).run Tryz.prog w = .ok (flV (A.F f)) w := by
  obtain ⟨l, hl, h2⟩ := d.files
  have := run_lookup (P := Tryz.prog) (t := 56) (et := 78) (z := flV ([], [])) keyI (by kernel_rfl) (fun w => by kernel_rfl) hl f
  rw [h2] at this
  exact this
end
@[reducible] def dkP (b : Nat) : Value := .pointer (some ⟨b, 0, none⟩)
section
variable {w : World} {b : Nat} {A : Ab} {h : Dk} {K : Value → World → Prop}
theorem size_ok (d : IsDk w b A h) (f : Int) (k : K (.int .i64 (A.F f).1.length) w) : callM Tryz.prog 27 #[dkP b, .int .i64 f] K w := by
  apply sh_27_ok
  unfold sh_27 dkP
  have c0 := d.c 0
  simp only [dkCells] at c0
  have hl := d.look f
  repeat (any_goals ((with_reducible refine idO ?_); (with_reducible refine oM_gen fun Kv hK=>?_); simp [go_sem, c0, hl, flV, bsV]; refine hK _ _ ?_; clear hK; clear Kv))
  exact k
theorem may_ok (d : IsDk w b A h) (f : Int) (k : K (.int .i64 (mayA A f)) w) : callM Tryz.prog 46 #[dkP b, .int .i64 f] K w := by
  apply sh_46_ok
  unfold sh_46 dkP
  have c4 := d.c 4
  simp only [dkCells] at c4
  unfold mayA at k
  repeat (any_goals (first
  | (with_reducible first|refine pureM_in ?_|((refine idGd ?_); ((refine idGdD ?_); first|refine zI ?_|refine zJ ?_|refine zK (fun hg=>?_) fun hg=>?_))|((refine idPick ?_); first|refine yD ?_|refine yE ?_)|((refine idCond ?_); first|refine yL ?_|refine yP (fun hg=>?_) fun hg=>?_|refine yY (fun hg=>?_) fun hg=>?_))
  | ((with_reducible refine idO ?_); (with_reducible refine oM_gen fun Kv hK=>?_); simp [go_sem, c4]; refine hK _ _ ?_; clear hK; clear Kv)))
  all_goals (try simp_all)
theorem start_ok (d : IsDk w b A h) (k : ∀ w', IsDk w' b (startA A) h → Step w b h w' h → K (.tuple #[]) w') : callM Tryz.prog 22 #[dkP b] K w := by
  apply sh_22_ok
  unfold sh_22 dkP
  have c4 := d.c 4
  have f4 := d.fz 4
  simp only [dkCells] at c4
  repeat (any_goals ((with_reducible refine idO ?_); (with_reducible refine oM_gen fun Kv hK=>?_); simp [go_sem, c4, f4]; refine hK _ _ ?_; clear hK; clear Kv))
  exact k _ (d.set4 false) (step_set _ _ _ _ _)
theorem lose_ok (d : IsDk w b A h) (n : Int) (hn : n < 2 ^ 63) (k : ∀ w', IsDk w' b (loseA A n) h → Step w b h w' h → K (.tuple #[]) w') : callM Tryz.prog 16 #[dkP b, .int .i64 n] K w := by
  apply sh_16_ok
  unfold sh_16 dkP
  have c3 := d.c 3
  have f3 := d.fz 3
  simp only [dkCells] at c3
  repeat (any_goals ((with_reducible refine idO ?_); (with_reducible refine oM_gen fun Kv hK=>?_); simp [go_sem, c3, f3]; refine hK _ _ ?_; clear hK; clear Kv))
  exact k _ (d.set3 (max n 0) (by omega)) (step_set _ _ _ _ _)
theorem ends_ok (d : IsDk w b A h) (k : ∀ w', IsDk w' b (endsA A).2 h → Step w b h w' h → K (.bool (endsA A).1) w') : callM Tryz.prog 49 #[dkP b] K w := by
  apply sh_49_ok
  unfold sh_49 dkP
  have c4 := d.c 4
  have c5 := d.c 5
  have f5 := d.fz 5
  simp only [dkCells] at c4 c5
  have a0 := d.wf.a0
  have a1 := d.wf.a1
  unfold endsA at k
  repeat (any_goals (first
  | (with_reducible first|refine pureM_in ?_|((refine idGd ?_); first|refine zY ?_|refine zZ ?_|refine yA (fun hg=>?_) fun hg=>?_)|((refine idPick ?_); first|refine yJ ?_|refine yK ?_)|((refine idCond ?_); first|refine yL ?_|refine yP (fun hg=>?_) fun hg=>?_))
  | ((with_reducible refine idO ?_); (with_reducible refine oM_gen fun Kv hK=>?_); simp [go_sem, c4, c5, f5]; (try simp (disch := omega) only [wrapI64, wrapU8, wrapU32, wrapU64]); refine hK _ _ ?_; clear hK; clear Kv)))
  · rw [if_pos (.inl hg)] at k
    exact k _ d (Step.refl _ _ _)
  · rw [if_pos (.inr hg)] at k
    exact k _ d (Step.refl _ _ _)
  · rename_i hg2
    rw [if_neg (by rw [hg2]; simp [hg])] at k
    have e : decide (A.armed - 1 = 0) = decide (A.armed = 1) := by
      by_cases h1 : A.armed = 1
      · simp [h1]
      · have : ¬ A.armed - 1 = 0 := by omega
        simp [h1, this]
    rw [e]
    exact k _ (d.set5 (A.armed - 1) (by omega)) (step_set _ _ _ _ _)
end
end Go.Proofs
namespace Go.Proofs
open Go Go.Sh Go.RowKit DkSpec
set_option linter.unusedSimpArgs false
set_option maxRecDepth 10000
def intC (n : Int) : List Value := [i64V n]
theorem ba_ext (x : List UInt8) (i j : Nat) : (⟨x.toArray⟩ : ByteArray).extract i j = ⟨((x.drop i).take (j - i)).toArray⟩ := by
  apply ByteArray.ext
  rw [ByteArray.data_extract]
  simp [List.extract_eq_take_drop]
theorem read_cut (l : List UInt8) (a n : Int) (ha : 0 ≤ a) (hn : 0 ≤ n) : ((⟨l.toArray⟩ : ByteArray).extract (min a l.length).toNat l.length).extract 0 (min n ((l.length - (min a (l.length : Int)).toNat : Nat) : Int)).toNat = ⟨((l.drop a.toNat).take n.toNat).toArray⟩ := by
  rw [ba_ext, ba_ext]
  congr 2
  rw [List.drop_zero, List.take_take]
  by_cases h : a ≤ l.length
  · have e : (min a (l.length : Int)).toNat = a.toNat := by omega
    rw [e, List.take_eq_take_iff, List.length_drop]
    omega
  · have e : (min a (l.length : Int)).toNat = l.length := by omega
    rw [e, List.drop_of_length_le (Nat.le_refl _), List.drop_of_length_le (by omega)]
    simp
theorem read_cut2 (l : List UInt8) (a n : Int) (ha : 0 ≤ a) (hn : 0 ≤ n) : (l.drop (min a (l.length : Int)).toNat).take (min n ((l.length - (min a (l.length : Int)).toNat : Nat) : Int)).toNat = (l.drop a.toNat).take n.toNat := by
  by_cases h : a ≤ l.length
  · have e : (min a (l.length : Int)).toNat = a.toNat := by omega
    rw [e, List.take_eq_take_iff, List.length_drop]
    omega
  · have e : (min a (l.length : Int)).toNat = l.length := by omega
    rw [e, List.drop_of_length_le (Nat.le_refl _), List.drop_of_length_le (by omega)]
    simp
theorem eqNil_at {P : Program} {w : World} {K : Value → World → Prop} {t e T : TypeId} {a : Option Addr} {n c : Nat} (ht : P.underlying t = some (.slice e)) (k : K (.bool a.isNone) w) : oM P (.binOp .eql t (.tmp 0) (.const (.slice none 0 0)) t) T [.slice a n c] K w := by
  rw [oM_eqc]
  have := Lib.run_eql_slice_nil (P := P) w t e a n c 0 0 ht
  simp only [Sem.run_bind]
  have h2 : (eqGuard .eql t (.tmp 0) (.const (.slice none 0 0)) (.slice a n c) (.slice none 0 0)).run P w = .ok () w := by
    simp [eqGuard]
  rw [h2, Result.andThen_ok, this]
  exact k
section
variable {w : World} {b : Nat} {A : Ab} {h : Dk} {K : Value → World → Prop}
theorem new_ok (k : ∀ w' b h, IsDk w' b newA h → Fr (fun _ => False) w w' → (∀ i, Own b h i → w.heap.size ≤ i) → (∀ i, ¬ Rdb h i) → K (dkP b) w') : callM Tryz.prog 6 #[] K w := by
  apply sh_6_ok
  unfold sh_6
  repeat (any_goals ((with_reducible refine idO ?_); (with_reducible refine oM_gen fun Kv hK=>?_); simp [go_sem]; refine hK _ _ ?_; clear hK; clear Kv))
  have s1 : (w.alloc (.map #[] 0)).heap.size = w.heap.size + 1 := alloc_size _ _
  have s2 : ((w.alloc (.map #[] 0)).alloc (.map #[] 0)).heap.size = w.heap.size + 1 + 1 := by rw [alloc_size, alloc_size]
  have m1 : MapIs i64V (w.alloc (.map #[] 0)) w.heap.size [] := mapIs_new w
  have m2 : MapIs secV ((w.alloc (.map #[] 0)).alloc (.map #[] 0)) (w.heap.size + 1) [] := by
    have := mapIs_new (mk := secV) (w.alloc (.map #[] 0))
    rw [s1] at this
    exact this
  refine k _ (w.heap.size + 1 + 1) ⟨w.heap.size, w.heap.size + 1, .slice none 0 0, .slice none 0 0⟩ ⟨?_, ?_, ?_, ?_, ?_, ?_, newA_wf⟩ (((Fr.refl _ _).alloc _).alloc _ |>.alloc _) ?_ ?_
  · have := heap_alloc_new ((w.alloc (.map #[] 0)).alloc (.map #[] 0)) (.cells (dkCells newA ⟨w.heap.size, w.heap.size + 1, .slice none 0 0, .slice none 0 0⟩) 60 (0, 0))
    rw [s2] at this
    exact this
  · exact ⟨[], (m1.alloc _).alloc _, fun f => rfl⟩
  · exact ⟨[], m2.alloc _, fun p => by simp [newA, lookA_nil]⟩
  · exact World.ownsRow_nil _ _ _ _
  · exact World.ownsRow_nil _ _ _ _
  · simp
  · rintro i (rfl | rfl | rfl | hi)
    · omega
    · exact Nat.le_refl _
    · simp
    · cases hi
  · intro i hi; cases hi
theorem cloneInt_ok {v : Value} {l : List Int} (hr : RowR intC 1 w v l) (hl : l.length < 2 ^ 40) (k : ∀ v' w', w'.ownsRow 0 3 1 v' l.length (flat intC l) → Fr (fun _ => False) w w' → (∀ i, v'.ownBlock = some i → w.heap.size ≤ i) → K v' w') : callM Tryz.prog 43 #[v] K w := by
  apply sh_43_ok
  unfold sh_43
  obtain ⟨ad, c, rfl, h0, hc⟩ := id hr
  refine eqNil_at (e := 3) (by kernel_rfl) ?_
  cases ad with
  | none =>
    obtain ⟨hl0, rfl⟩ := h0 rfl
    obtain rfl : l = [] := List.eq_nil_of_length_eq_zero hl0
    simp only [Option.isNone_none]
    repeat (any_goals (with_reducible ((refine idCond ?_); refine yL ?_)))
    exact k _ _ (World.ownsRow_nil _ _ _ _) (Fr.refl _ _) (fun i hi => by cases hi)
  | some a =>
    simp only [Option.isNone_some]
    repeat (any_goals (first
    | (with_reducible ((refine idCond ?_); refine yM ?_))
    | ((with_reducible refine idO ?_); (with_reducible refine oM_gen fun Kv hK=>?_); simp [go_sem]; refine hK _ _ ?_; clear hK; clear Kv)))
    have hr2 : RowR intC 1 (w.alloc (.cells #[] 3)) (.slice (some a) l.length c) l := hr.keep (by rw [alloc_size]; omega) (fun i _ hi => heap_alloc_old _ _ hi)
    refine clone_at 36 36 3 ((Tryz.prog.info? 3).getD default) (.int .i64 0) 1 8 (by kernel_rfl) (by kernel_rfl) (by kernel_rfl) (by kernel_rfl) (by kernel_rfl) (by kernel_rfl) (by omega) (fun _ => rfl) (fun x u hu => by simp [intC] at hu; subst hu; rfl) hr2 (World.ownsRow_lit w #[] 0 (Nat.zero_le _) (Nat.zero_le _) rfl) (B := w.heap.size) (by rw [alloc_size]; omega) (fun i hi => by cases hi; exact Nat.le_refl _) (by omega) (by omega) ?_
    intro v' w' ho hg hv
    exact k v' w' ho (((Fr.refl _ _).alloc _).by hg (fun i hi => by cases hi; exact .inr (Nat.le_refl _))) hv
theorem read_ok (d : IsDk w b A h) (f at_ size : Int) (k : K (.tuple #[bsV (readA A f at_ size).1, .int .i64 (readA A f at_ size).2]) w) : callM Tryz.prog 26 #[dkP b, .int .i64 f, .int .i64 at_, .int .i64 size] K w := by
  apply sh_26_ok
  unfold sh_26
  refine may_ok d f ?_
  have c0 := d.c 0
  simp only [dkCells] at c0
  have hl := d.look f
  unfold readA at k
  unfold dkP
  repeat (any_goals (first
  | (with_reducible first|refine pureM_in ?_|((refine idGd ?_); ((refine idGdD ?_); first|refine zI ?_|refine zJ ?_|refine zK (fun hg=>?_) fun hg=>?_))|((refine idPick ?_); first|refine yD ?_|refine yE ?_)|((refine idCond ?_); first|refine yL ?_|refine yP (fun hg=>?_) fun hg=>?_|refine yS (fun hg=>?_) fun hg=>?_))
  | ((with_reducible refine idO ?_); (with_reducible refine oM_gen fun Kv hK=>?_); simp [go_sem, c0, hl, flV, bsV]; (first|refine hK _ _ ?_|refine And.intro (by omega) (hK _ _ ?_)); clear hK; clear Kv)))
  · rename_i h0
    rw [if_neg (by omega), if_pos (.inl hg)] at k
    exact k
  · rename_i h0
    rw [if_neg (by omega), if_pos (.inr hg)] at k
    exact k
  · rename_i h0
    rw [if_neg (by omega), if_neg (by omega)] at k
    first | rw [read_cut _ _ _ (by omega) (by omega)] | rw [read_cut2 _ _ _ (by omega) (by omega)]
    exact k
  · rw [if_pos hg] at k
    exact k
end
end Go.Proofs
namespace Go.Proofs
open Go Go.Sh Go.RowKit DkSpec
set_option linter.unusedSimpArgs false
set_option maxRecDepth 10000
section
variable {w : World} {b : Nat} {A : Ab} {h : Dk} {K : Value → World → Prop}
theorem ba_nil (t : List UInt8) : ((⟨t.toArray⟩ : ByteArray) = ⟨#[]⟩) ↔ t = [] := by
  constructor
  · intro h
    have := congrArg (fun b => b.data.toList) h
    simpa using this
  · rintro rfl; rfl
theorem flat_one {α : Type} (f : α → Value) (l : List α) : flat (fun x => [f x]) l = l.map f := by
  induction l with
  | nil => rfl
  | cons x l ih => rw [flat_cons, ih]; rfl
theorem put_ok (s t : Bs) (a : Int) (h0 : 0 ≤ a) (ha : a + t.length ≤ 16777216) (hs : s.length ≤ 16777216) (k : ∀ w', Fr (fun _ => False) w w' → K (bsV (putB s a.toNat t)) w') : callM Tryz.prog 44 #[bsV s, .int .i64 a, bsV t] K w := by
  apply sh_44_ok
  unfold sh_44 bsV
  by_cases ht : t = []
  · subst ht
    repeat (any_goals (first
    | (with_reducible ((refine idCond ?_); refine yL ?_))
    | ((with_reducible refine idO ?_); (with_reducible refine oM_gen fun Kv hK=>?_); simp [go_sem]; refine hK _ _ ?_; clear hK; clear Kv)))
    exact k _ (Fr.refl _ _)
  · have hne : ¬ ((⟨t.toArray⟩ : ByteArray) = ⟨#[]⟩) := fun e => ht ((ba_nil t).1 e)
    obtain ⟨n, rfl⟩ := Int.eq_ofNat_of_zero_le h0
    have hmax : max (s.length : Int) ((n : Int) + t.length) = ((max s.length (n + t.length) : Nat) : Int) := by omega
    repeat (any_goals (first
    | (with_reducible ((refine idCond ?_); refine yO ?_))
    | ((with_reducible refine idO ?_); (with_reducible refine oM_gen fun Kv hK=>?_); simp [go_sem, hmax]; (try simp (disch := omega) only [wrapI64, wrapU8, wrapU32, wrapU64]); refine hK _ _ ?_; clear hK; clear Kv)))
    have hpos : 0 < t.length := List.length_pos_iff.2 ht
    refine makeBytes_at (e := 5) (i := (Tryz.prog.info? 5).getD default) (by kernel_rfl) (by kernel_rfl) (by kernel_rfl) (by kernel_rfl) (by kernel_rfl) _ (by omega) (fun hB => ?_)
    have g1 : Fr (fun _ => False) w (w.alloc (.cells (Lib.byteCells (List.replicate (max s.length (n + t.length)) 0)).toArray 5)) := (Fr.refl _ _).alloc _
    generalize (w.alloc (.cells (Lib.byteCells (List.replicate (max s.length (n + t.length)) 0)).toArray 5)) = w1 at *
    refine copyStr_at (e := 5) (by kernel_rfl) (by kernel_rfl) hB s (by omega) (by simp; omega) (fun w2 hB2 hg2 => ?_)
    have g2 := g1.by hg2 (fun i hi => by cases hi; exact .inr (Nat.le_refl _))
    refine sliceFrom_at (sz := 1) (by kernel_rfl) (fun w => by kernel_rfl) n (by omega) (by omega) ?_
    rw [Nat.zero_add, Nat.mul_one]
    refine copyStr_at (e := 5) (by kernel_rfl) (by kernel_rfl) hB2 t (by omega) (by simp; omega) (fun w3 hB3 hg3 => ?_)
    have g3 := g2.by hg3 (fun i hi => by cases hi; exact .inr (Nat.le_refl _))
    have e1 : (List.replicate (max s.length (n + t.length)) (0 : UInt8)).take 0 ++ s ++ (List.replicate (max s.length (n + t.length)) 0).drop (0 + s.length) = s ++ List.replicate (n + t.length - s.length) 0 := by
      rw [List.take_zero, List.nil_append, List.drop_replicate]
      congr 2
      omega
    have e2 := putB_length s n t
    rw [if_neg ht] at e2
    have e3 : (s ++ List.replicate (n + t.length - s.length) 0).take n ++ t ++ (s ++ List.replicate (n + t.length - s.length) 0).drop (n + t.length) = putB s n t := by
      unfold putB
      rw [if_neg ht]
    rw [e1, e3] at hB3
    refine toStr_at (e := 5) (by kernel_rfl) (by kernel_rfl) (by kernel_rfl) hB3 e2.symm ?_
    have := k w3 g3
    rw [Int.toNat_natCast] at this
    exact this
theorem put_ok' (s t : Bs) (a : Int) (h0 : 0 ≤ a) (ha : a + t.length ≤ 16777216) (hs : s.length ≤ 16777216) (k : ∀ w', Fr (fun _ => False) w w' → K (bsV (putB s a.toNat t)) w') : callM Tryz.prog 44 #[.string ⟨s.toArray⟩, .int .i64 a, .string ⟨t.toArray⟩] K w := put_ok s t a h0 ha hs k
theorem arm_ok (d : IsDk w b A h) (n : Int) (hn : n < 2 ^ 63) {v : Value} {l : List Int} (hr : RowR intC 1 w v l) (hl : l.length < 2 ^ 40) (hk : ∀ x ∈ l, -2 ^ 63 ≤ x ∧ x < 2 ^ 63) (k : ∀ w' h', IsDk w' b (armA A n l) h' → Step w b h w' h' → K (.tuple #[]) w') : callM Tryz.prog 18 #[dkP b, .int .i64 n, v] K w := by
  apply sh_18_ok
  unfold sh_18 dkP
  repeat (any_goals (first
  | (with_reducible refine cloneInt_ok hr hl ?_)
  | ((with_reducible refine idO ?_); (with_reducible refine oM_gen fun Kv hK=>?_); simp [go_sem]; refine hK _ _ ?_; clear hK; clear Kv)))
  intro v' w1 ho hf hv
  obtain ⟨va, vc, rfl⟩ := owns_len ho
  have d1 : IsDk w1 b A h := d.keep (fun i hi => hf.block i (d.lt hi) (fun h => h))
  have c5 := d1.c 5
  have f5 := d1.fz 5
  simp only [dkCells] at c5
  have d2 := d1.set5 (max n 0) (by omega)
  have c6 := d2.c 6
  have f6 := d2.fz 6
  simp only [dkCells] at c6
  repeat (any_goals ((with_reducible refine idO ?_); (with_reducible refine oM_gen fun Kv hK=>?_); simp [go_sem, c5, f5, c6, f6]; refine hK _ _ ?_; clear hK; clear Kv))
  have hb := d2.blk
  have hsz := hf.size
  have hfl : flat intC l = l.map i64V := flat_one i64V l
  have hvb : ∀ i, (Value.slice va l.length vc).ownBlock = some i → w.heap.size ≤ i := hv
  have hblt : b < w.heap.size := d.lt (.inl (.inl rfl))
  generalize hw2 : w1.setCell ⟨b, 5, none⟩ (.int .i64 (max n 0)) = w2 at *
  have hne : ∀ i, i ≠ b → (w2.setCell ⟨b, 6, none⟩ (.slice va l.length vc)).heap[i]? = w2.heap[i]? := fun i hi => setCell_heap_ne _ _ _ _ hi
  have ho2 : w2.ownsRow 0 3 1 (.slice va l.length vc) l.length (flat intC l) := owns_keep ho (fun i hi => by
    rw [← hw2, setCell_heap_ne _ _ _ _ (fun e => by have := hvb i hi; simp at e; omega)])
  refine k _ { h with kp := .slice va l.length vc } ⟨?_, ?_, ?_, ?_, ?_, d.ne, armA_wf d.wf n hn l hk (by omega)⟩ ⟨?_, ?_, ?_⟩
  · rw [block_set hb]; rfl
  · obtain ⟨l, hl, h2⟩ := d2.files
    exact ⟨l, hl.of_block (hne _ d2.bfm.symm), h2⟩
  · obtain ⟨l, hl, h2⟩ := d2.set
    exact ⟨l, hl.of_block (hne _ d2.bsm.symm), h2⟩
  · exact owns_keep d2.que (fun i hi => hne i (d2.qne hi).1)
  · show World.ownsRow _ 0 _ 1 (.slice va l.length vc) l.length (l.map i64V)
    rw [← hfl]
    exact owns_keep ho2 (fun i hi => hne i (fun e => by have := hvb i hi; omega))
  · have : Fr (Own b h) w w1 := hf.mono (fun i _ h => h.elim)
    rw [← hw2]
    exact (this.set ⟨b, 5, none⟩ _ (.inl (.inl rfl))).set ⟨b, 6, none⟩ _ (.inl (.inl rfl))
  · intro i hi
    exact .inl hi
  · intro i hi
    exact .inr (hv i hi)
end
end Go.Proofs
namespace Go.Proofs
open Go Go.Sh Go.RowKit DkSpec
set_option linter.unusedSimpArgs false
set_option maxRecDepth 10000
section
variable {w : World} {b : Nat} {A : Ab} {h : Dk} {K : Value → World → Prop}
theorem secC_len (p : Int × Int) : (secC p).length = 2 := rfl
theorem secC_one (p : Int × Int) : ∀ u ∈ secC p, u.oneCell' = true := by
  intro u hu
  simp [secC] at hu
  rcases hu with rfl | rfl <;> rfl
end
end Go.Proofs
namespace Go.Proofs
open Go Go.Sh Go.RowKit DkSpec
set_option linter.unusedSimpArgs false
set_option maxRecDepth 10000
section
variable {w : World} {b : Nat} {A : Ab} {h : Dk} {K : Value → World → Prop}
theorem cell_heap {w w' : World} (h : w'.heap = w.heap) (a : Addr) : w'.cell? a = w.cell? a := by
  unfold World.cell?; rw [h]
theorem IsDk.heap {w' : World} (d : IsDk w b A h) (e : w'.heap = w.heap) : IsDk w' b A h := d.keep (fun i _ => by rw [e])
theorem IsDk.fresh {w' : World} (d : IsDk w b A h) (f : Fr (fun _ => False) w w') : IsDk w' b A h := d.keep (fun i hi => f.block i (d.lt hi) (fun h => h))
theorem Step.fresh {w' : World} (f : Fr (fun _ => False) w w') : Step w b h w' h := ⟨f.mono (fun _ _ h => h.elim), fun _ h => .inl h, fun _ h => .inl h⟩
def secsFrom (n m : Nat) : List Int := (List.range' n (m + 1 - n)).map Int.ofNat
theorem secsFrom_le {n m : Nat} (h : n ≤ m) : secsFrom n m = (n : Int) :: secsFrom (n + 1) m := by
  unfold secsFrom
  have e : m + 1 - n = (m + 1 - (n + 1)) + 1 := by omega
  rw [e, List.range'_succ]
  rfl
theorem secsFrom_gt {n m : Nat} (h : m < n) : secsFrom n m = [] := by
  unfold secsFrom
  have e : m + 1 - n = 0 := by omega
  rw [e]
  rfl
theorem push_wf (hw : WF A) {f n : Int} (hf : 0 ≤ f ∧ f < 16) (hn : 0 ≤ n ∧ n < 262144) (hq : (f, n) ∉ A.queue) : WF { A with queue := A.queue ++ [(f, n)] } := by
  refine ⟨hw.l0, hw.l1, hw.a0, hw.a1, ?_, ?_, hw.sz, hw.kr, hw.kl⟩
  · show (A.queue ++ [(f, n)]).Nodup
    rw [List.nodup_append]
    refine ⟨hw.nd, by simp, ?_⟩
    intro a ha c hc
    simp only [List.mem_singleton] at hc
    subst hc
    rintro rfl
    exact hq ha
  · intro p hp
    rcases List.mem_append.1 hp with hp | hp
    · exact hw.qr p hp
    · simp only [List.mem_singleton] at hp
      subst hp
      exact ⟨hf.1, hf.2, hn.1, hn.2⟩
theorem IsDk.lookS (d : IsDk w b A h) (p : Int × Int) : (Instr.lookup 57 (.map (some h.sm)) (.agg #[.int .i64 p.1, .int .i64 p.2]) false).run Tryz.prog w = .ok (.bool (decide (p ∈ A.queue))) w := by
  obtain ⟨l, hl, h2⟩ := d.set
  have := run_lookup (P := Tryz.prog) (t := 57) (et := 4) (z := .bool false) keyS (by kernel_rfl) (fun w => by kernel_rfl) hl p
  rw [h2] at this
  unfold secV at this
  rw [this]
  by_cases hp : p ∈ A.queue <;> simp [hp]
theorem IsDk.setFile (d : IsDk w b A h) (f : Int) (x : Bs × Bs) (hx : x.1.length ≤ 16777216 ∧ x.2.length ≤ 16777216) : ∃ w', (Instr.mapUpdate 56 (.map (some h.fm)) (.int .i64 f) (.agg #[.string ⟨x.1.toArray⟩, .string ⟨x.2.toArray⟩])).run Tryz.prog w = .ok () w' ∧ IsDk w' b { A with F := setF A.F f x } h ∧ Step w b h w' h := by
  obtain ⟨l, m, hl⟩ := d.files
  obtain ⟨w', hr, m', g, z⟩ := run_update (P := Tryz.prog) (t := 56) (et := 78) keyI (by kernel_rfl) m f (flV x)
  have hne : ∀ i, i < w.heap.size → i ≠ h.fm → w'.heap[i]? = w.heap[i]? := fun i hi hn => g.block i hi (fun e => hn (by cases e; rfl))
  refine ⟨w', hr, ⟨?_, ⟨_, m', ?_⟩, ?_, ?_, ?_, d.ne, ?_⟩, ⟨(Fr.refl _ _).by g (fun i hi => by cases hi; exact .inl (.inr (.inl rfl))), fun _ h => .inl h, fun _ h => .inl h⟩⟩
  · rw [hne b (d.lt (.inl (.inl rfl))) d.bfm]; exact d.blk
  · intro g
    rw [lookA_put]
    show _ = flV (setF A.F f x g)
    by_cases hg : g = f
    · subst hg
      rw [if_pos rfl, setF_same]; rfl
    · rw [if_neg hg, setF_ne _ _ _ _ hg]; exact hl g
  · obtain ⟨ls, ms, hs⟩ := d.set
    exact ⟨ls, ms.of_block (hne _ ms.lt (Ne.symm d.ne)), hs⟩
  · exact owns_keep d.que (fun i hi => hne i (d.lt (.inl (.inr (.inr (.inr hi))))) (d.qne hi).2.1)
  · exact owns_keep d.kep (fun i hi => hne i (d.lt (.inr hi)) (d.kne hi).2.1)
  · refine ⟨d.wf.l0, d.wf.l1, d.wf.a0, d.wf.a1, d.wf.nd, d.wf.qr, ?_, d.wf.kr, d.wf.kl⟩
    intro g
    show (setF A.F f x g).1.length ≤ _ ∧ (setF A.F f x g).2.length ≤ _
    by_cases hg : g = f
    · subst hg; rw [setF_same]; exact hx
    · rw [setF_ne _ _ _ _ hg]; exact d.wf.sz g
theorem push_done {w9 w10 w13 : World} {p : Int × Int} {v' : Value} {ls : List ((Int × Int) × Value)} (d9 : IsDk w9 b A h) (hg10 : w9.grownBy w10 h.q.ownBlock) (ho : w10.ownsRow 0 76 2 v' (A.queue.length + 1) (flat secC A.queue ++ secC p)) (hv : ∀ i, v'.ownBlock = some i → h.q.ownBlock = some i ∨ w9.heap.size ≤ i)
    (m13 : MapIs secV w13 h.sm (putA ls p (.bool true))) (hls : ∀ p, lookA ls p = if p ∈ A.queue then some (.bool true) else none) (g13 : (w10.setCell ⟨b, 1, none⟩ v').grownBy w13 (some h.sm)) (hwf : WF { A with queue := A.queue ++ [p] }) :
    IsDk w13 b { A with queue := A.queue ++ [p] } { h with q := v' } ∧ Step w9 b h w13 { h with q := v' } := by
  have hs10 := hg10.size
  have hb9 := d9.lt (.inl (.inl rfl))
  have hf9 : h.fm < w9.heap.size := d9.lt (.inl (.inr (.inl rfl)))
  have hsm9 : h.sm < w9.heap.size := d9.lt (.inl (.inr (.inr (.inl rfl))))
  have k10 : ∀ i, i < w9.heap.size → h.q.ownBlock ≠ some i → w10.heap[i]? = w9.heap[i]? := fun i hi hn => hg10.block i hi (fun e => hn e.symm)
  have hsz11 : (w10.setCell ⟨b, 1, none⟩ v').heap.size = w10.heap.size := by simp [World.setCell]
  have k13 : ∀ i, i < w10.heap.size → i ≠ h.sm → i ≠ b → w13.heap[i]? = w10.heap[i]? := fun i hi hn hb => by
    rw [g13.block i (by rw [hsz11]; exact hi) (fun e => hn (by cases e; rfl)), setCell_heap_ne _ _ _ _ hb]
  have hqb : h.q.ownBlock ≠ some b := fun e => (d9.qne e).1 rfl
  have hqf : h.q.ownBlock ≠ some h.fm := fun e => (d9.qne e).2.1 rfl
  have hqs : h.q.ownBlock ≠ some h.sm := fun e => (d9.qne e).2.2 rfl
  have hvne : ∀ i, v'.ownBlock = some i → i ≠ b ∧ i ≠ h.sm := fun i hi => by
    rcases hv i hi with e | e
    · exact ⟨(d9.qne e).1, (d9.qne e).2.2⟩
    · omega
  refine ⟨⟨?_, ?_, ?_, ?_, ?_, d9.ne, hwf⟩, ⟨?_, ?_, fun i hi => .inl hi⟩⟩
  · have hb10 := k10 b hb9 hqb
    rw [d9.blk] at hb10
    rw [g13.block b (by rw [hsz11]; omega) (fun e => d9.bsm (by cases e; rfl)), block_set hb10]
    rfl
  · obtain ⟨l, m, hl⟩ := d9.files
    refine ⟨l, m.of_block ?_, hl⟩
    rw [k13 _ (by omega) d9.ne d9.bfm.symm, k10 _ hf9 hqf]
  · refine ⟨_, m13, fun r => ?_⟩
    rw [lookA_put, hls]
    by_cases hr : r = p
    · subst hr; simp
    · simp [hr]
  · show w13.ownsRow 0 _ 2 v' (A.queue ++ [p]).length (flat secC (A.queue ++ [p]))
    rw [flat_snoc, List.length_append]
    exact owns_keep ho (fun i hi => k13 i (owns_own ho hi).1 (hvne i hi).2 (hvne i hi).1)
  · refine owns_keep d9.kep (fun i hi => ?_)
    have hi' := d9.lt (.inr hi)
    have := d9.kne hi
    rw [k13 i (by omega) this.2.2.1 this.1, k10 i hi' this.2.2.2]
  · refine (((Fr.refl _ _).by hg10 (fun i hi => .inl (.inr (.inr (.inr hi))))).set ⟨b, 1, none⟩ v' (.inl (.inl rfl))).by g13 (fun i hi => ?_)
    cases hi
    exact .inl (.inr (.inr (.inl rfl)))
  · rintro i (rfl | rfl | rfl | hi)
    · exact .inl (.inl rfl)
    · exact .inl (.inr (.inl rfl))
    · exact .inl (.inr (.inr (.inl rfl)))
    · exact (hv i hi).imp (fun e => .inr (.inr (.inr e))) id
set_option maxHeartbeats 1000000 in
theorem write_ok (d : IsDk w b A h) (f at_ : Int) (s : Bs) (hs : s.length < 2 ^ 60) (hat : -2 ^ 63 ≤ at_ ∧ at_ < 2 ^ 63) (k : ∀ w' h', IsDk w' b (wrA A f at_ s).2 h' → Step w b h w' h' → K (.int .i64 (wrA A f at_ s).1) w') : callM Tryz.prog 50 #[dkP b, .int .i64 f, .int .i64 at_, bsV s] K w := by
  apply sh_50_ok
  unfold sh_50
  refine may_ok d f ?_
  have k' : ∀ r A', wrA A f at_ s = (r, A') → ∀ w' h', IsDk w' b A' h' → Step w b h w' h' → K (.int .i64 r) w' := by
    intro r A' e w' h' h1 h2
    have := k w' h' (by rw [e]; exact h1) h2
    rw [e] at this
    exact this
  clear k
  unfold wrA at k'
  have c0 := d.c 0
  simp only [dkCells] at c0
  have hl := d.look f
  unfold dkP bsV
  repeat (any_goals (first
  | (with_reducible first|refine pureM_in ?_|((refine idGd ?_); ((refine idGdD ?_); first|refine zI ?_|refine zJ ?_|refine zK (fun hg=>?_) fun hg=>?_))|((refine idPick ?_); first|refine yD ?_|refine yE ?_)|((refine idCond ?_); first|refine yL ?_|refine yP (fun hg=>?_) fun hg=>?_|refine yS (fun hg=>?_) fun hg=>?_))
  | ((with_reducible refine idO ?_); (with_reducible refine oM_gen fun Kv hK=>?_); simp [go_sem, c0, hl, flV, bsV]; (try simp (disch := omega) only [wrapI64, wrapU8, wrapU32, wrapU64]); refine hK _ _ ?_; clear hK; clear Kv)))
  · rename_i hm
    exact k' 1 A (by rw [if_neg (by omega), if_pos hg]) w h d (Step.refl _ _ _)
  · rename_i hm h1
    exact k' 6 A (by rw [if_neg (by omega), if_neg h1, if_pos (by omega)]) w h d (Step.refl _ _ _)
  · rename_i hm h1 h2
    exact k' 6 A (by rw [if_neg (by omega), if_neg h1, if_pos (by omega)]) w h d (Step.refl _ _ _)
  · rename_i hm h1 h2 h3
    exact k' 0 A (by rw [if_neg (by omega), if_neg h1, if_neg (by omega), hg]; rfl) w h d (Step.refl _ _ _)
  · rename_i hm h1 h2 h3
    have hmay := mayA_ok hm
    have hsne : ¬ s = [] := hg
    have k0 := k' 0 (addA A f at_.toNat s) (by rw [if_neg (by omega), if_neg h1, if_neg (by omega)])
    clear k'
    obtain ⟨a, rfl⟩ := Int.eq_ofNat_of_zero_le (by omega : 0 ≤ at_)
    rw [Int.toNat_natCast] at k0
    have hlen : 0 < s.length := List.length_pos_iff.2 hg
    have hn := heap_alloc_new w (.cells #[bsV (A.F f).1, bsV (A.F f).2] 78 (0, 0))
    have f0 : Fr (fun _ => False) w (w.alloc (.cells #[bsV (A.F f).1, bsV (A.F f).2] 78 (0, 0))) := (Fr.refl _ _).alloc _
    have z0 := alloc_size w (.cells #[bsV (A.F f).1, bsV (A.F f).2] 78 (0, 0))
    simp only [bsV] at hn f0 z0
    generalize w.alloc (.cells #[.string ⟨(A.F f).1.toArray⟩, .string ⟨(A.F f).2.toArray⟩] 78 (0, 0)) = w0 at *
    have e0 := cell_of_block hn 0
    simp at e0
    repeat (any_goals (with_reducible refine put_ok' (A.F f).1 s (a : Int) (by omega) (by omega) (d.wf.sz f).1 ?_))
    intro w1 g1
    have f1 := f0.trans g1 (fun _ h => h.elim)
    have z1 := g1.size
    have hn1 := (g1.block w.heap.size (by omega) (fun h => h)).trans hn
    have y0 := frozen_of_block hn1 0
    have e1 := cell_of_block hn1 0
    simp at e1
    have hn2 := block_set (i := 0) hn1 (bsV (putB (A.F f).1 a s))
    unfold bsV at hn2
    repeat (any_goals ((with_reducible refine idO ?_); (with_reducible refine oM_gen fun Kv hK=>?_); simp [go_sem, y0, e1, bsV]; refine hK _ _ ?_; clear hK; clear Kv))
    have f2 := f1.set ⟨w.heap.size, 0, none⟩ (.string ⟨(putB (A.F f).1 a s).toArray⟩) (.inr (Nat.le_refl _))
    generalize w1.setCell ⟨w.heap.size, 0, none⟩ (.string ⟨(putB (A.F f).1 a s).toArray⟩) = w2 at *
    have d2 := d.fresh f2
    have c20 := d2.c 0
    simp only [dkCells] at c20
    have e20 := cell_of_block hn2 0
    have e21 := cell_of_block hn2 1
    simp at e20 e21
    refine ⟨fun s w' => s ≤ 0 → w'.heap = w2.heap, fun _ => rfl, ?_⟩
    repeat (first | (with_reducible refine pureH_in ?_) | (with_reducible refine oH_nil ?_) | (with_reducible refine gdH_true rfl ?_) | (with_reducible refine gdH_false rfl ?_) | (refine oH_of ⟨_, rfl⟩ (fun W0 hW0 => by (obtain ⟨s0, hs0, hC⟩ := hW0); (refine oM_gen (fun Kv hK => ?_)); simp [go_sem, cell_heap (hC (by omega)), c20, e20, e21]; (first | exact hK _ _ ⟨rfl, rfl⟩ | exact ⟨by omega, hK _ _ ⟨rfl, rfl⟩⟩)) ?_))
    generalize hw3 : ({ w2 with drawn := w2.drawn + 1 } : World) = w3
    have d3 : IsDk w3 b A h := d2.heap (by rw [← hw3])
    have f3 : Fr (fun _ => False) w w3 := by rw [← hw3]; exact f2.drew
    have hpl := putB_length (A.F f).1 a s
    rw [if_neg hg] at hpl
    obtain ⟨w4, hr4, d4, t4⟩ := d3.setFile f (putB (A.F f).1 a s, (A.F f).2) ⟨by show List.length (putB _ _ _) ≤ _; rw [hpl]; have := (d.wf.sz f).1; omega, (d.wf.sz f).2⟩
    simp only at hr4
    have t04 : Step w b h w4 h := (Step.fresh f3).trans t4
    repeat (any_goals (first
    | (with_reducible refine And.intro (fun hs => absurd hs (by decide)) ?_)
    | ((with_reducible refine idO ?_); (with_reducible refine oM_gen fun Kv hK=>?_); simp [go_sem, hr4]; (try simp (disch := omega) only [wrapI64, wrapU8, wrapU32, wrapU64]); refine hK _ _ ?_; clear hK; clear Kv)))
    obtain ⟨m, hm'⟩ : ∃ m, m = (a + s.length - 1) / 64 := ⟨_, rfl⟩
    have hd1 : ((a : Int) + (s.length : Int) - 1).tdiv 64 = (m : Int) := by
      rw [tdivN _ _ (by omega)]; omega
    have hd2 : ((a : Int) + (s.length : Int) - 1) / 64 = (m : Int) := by omega
    have hmb : m < 262144 := by omega
    have hbs : w.heap.size ≤ w4.heap.size := t04.fr.size
    refine ⟨fun l w' => ∃ (n : Nat) (q : List (Int × Int)) (h1 : Dk), l = [.int .i64 (n : Int)] ∧ n ≤ m + 1 ∧ IsDk w' b { A with F := setF A.F f (putB (A.F f).1 a s, (A.F f).2), queue := q } h1 ∧ Step w b h w' h1 ∧ pushQ f q (secsFrom n m) = pushQ f A.queue (secs a s.length), fun l _ => match l with | [.int _ n] => ((m : Int) + 1 - n).toNat | _ => 0, ⟨a / 64, A.queue, h, by simp, by omega, d4, t04, by rw [hm']; rfl⟩, ?_⟩
    rintro l u w5 ⟨n, q, h5, rfl, hnm, d5, t5, hp⟩
    simp only [List.getD_cons_zero]
    repeat (any_goals (first
    | (with_reducible ((refine idCond ?_); refine yP (fun hg=>?_) fun hg=>?_))
    | ((with_reducible refine idO ?_); (with_reducible refine oM_gen fun Kv hK=>?_); simp [go_sem, hd1, hd2]; (try simp (disch := omega) only [wrapI64, wrapU8, wrapU32, wrapU64]); refine hK _ _ ?_; clear hK; clear Kv)))
    · rw [secsFrom_le hg] at hp
      have hp : pushQ f (if (f, (n : Int)) ∈ q then q else q ++ [(f, (n : Int))]) (secsFrom (n + 1) m) = _ := hp
      refine ⟨fun _ w' => ∃ (q' : List (Int × Int)) (h' : Dk), IsDk w' b { A with F := setF A.F f (putB (A.F f).1 a s, (A.F f).2), queue := q' } h' ∧ Step w b h w' h' ∧ pushQ f q' (secsFrom (n + 1) m) = pushQ f A.queue (secs a s.length), ?_, ?_⟩
      · repeat (any_goals ((with_reducible refine idO ?_); (with_reducible refine oM_gen fun Kv hK=>?_); simp [go_sem]; refine hK _ _ ?_; clear hK; clear Kv))
        have p0 := heap_alloc_new w5 (.cells #[.int .i64 f, .int .i64 (n : Int)] 76 (0, 0))
        have pf : Fr (fun _ => False) w5 (w5.alloc (.cells #[.int .i64 f, .int .i64 (n : Int)] 76 (0, 0))) := (Fr.refl _ _).alloc _
        have pz := alloc_size w5 (.cells #[.int .i64 f, .int .i64 (n : Int)] 76 (0, 0))
        generalize w5.alloc (.cells #[.int .i64 f, .int .i64 (n : Int)] 76 (0, 0)) = w6 at *
        have d6 := d5.fresh pf
        have c62 := d6.c 2
        simp only [dkCells] at c62
        have p00 := cell_of_block p0 0
        have p01 := cell_of_block p0 1
        simp at p00 p01
        have lk : ∀ W : World, W.heap = w6.heap → _ := fun W hW => (d6.heap hW).lookS (f, (n : Int))
        simp only at lk
        refine ⟨fun s w' => s ≤ 0 → w'.heap = w6.heap, fun _ => rfl, ?_⟩
        repeat (first | (with_reducible refine pureH_in ?_) | (with_reducible refine oH_nil ?_) | (with_reducible refine gdH_true rfl ?_) | (with_reducible refine gdH_false rfl ?_) | (refine oH_of ⟨_, rfl⟩ (fun W0 hW0 => by (obtain ⟨s0, hs0, hC⟩ := hW0); (refine oM_gen (fun Kv hK => ?_)); simp [go_sem, cell_heap (hC (by omega)), c62, p00, p01, lk W0 (hC (by omega))]; (first | exact hK _ _ ⟨rfl, rfl⟩ | exact ⟨by omega, hK _ _ ⟨rfl, rfl⟩⟩)) ?_))
        generalize hw7 : ({ w6 with drawn := w6.drawn + 1 } : World) = w7
        have d7 : IsDk w7 b _ h5 := d6.heap (by rw [← hw7])
        have t7 : Step w b h w7 h5 := t5.trans (Step.fresh (by rw [← hw7]; exact pf.drew))
        have p7 : w7.heap[w5.heap.size]? = some (.cells #[.int .i64 f, .int .i64 (n : Int)] 76 (0, 0)) := by rw [← hw7]; exact p0
        have z7 : w7.heap.size = w5.heap.size + 1 := by rw [← hw7]; exact pz
        clear hw7
        have b5 : b < w5.heap.size := d5.lt (.inl (.inl rfl))
        repeat (any_goals (with_reducible ((refine idCond ?_); refine yS (fun hg=>?_) fun hg=>?_)))
        · rename_i hin
          rw [if_pos (by assumption)] at hp
          exact ⟨q, h5, d7, t7, hp⟩
        · rename_i hin
          refine ⟨fun sg w' => sg ≤ 5 → w'.heap[w5.heap.size]? = some (.cells #[.int .i64 f, .int .i64 (n : Int)] 76 (0, 0)) ∧ (sg ≤ 2 → w'.heap[b]? = some (.cells (dkCells { A with F := setF A.F f (putB (A.F f).1 a s, (A.F f).2), queue := q } h5) 60 (0, 0))), fun _ => ⟨p7, fun _ => d7.blk⟩, ?_⟩
          iterate 5 (first | (with_reducible refine pureH_in ?_) | (with_reducible refine oH_nil ?_) | (with_reducible refine gdH_true rfl ?_) | (with_reducible refine gdH_false rfl ?_) | (refine oH_of ⟨_, rfl⟩ (fun W0 hW0 => by (obtain ⟨s0, hs0, hC⟩ := hW0); (have hsk : s0 ≤ 2 := by omega); (refine oM_gen (fun Kv hK => ?_)); simp [go_sem, cell_of_block (hC (Nat.le_trans hsk (by decide))).1, cell_of_block ((hC (Nat.le_trans hsk (by decide))).2 hsk), dkCells]; (first | exact hK _ _ ⟨rfl, rfl⟩ | exact ⟨by omega, hK _ _ ⟨rfl, rfl⟩⟩)) ?_))
          iterate 1 (first | (with_reducible refine pureH_in ?_) | (with_reducible refine oH_nil ?_) | (with_reducible refine gdH_true rfl ?_) | (with_reducible refine gdH_false rfl ?_) | (refine oH_of ⟨_, rfl⟩ (fun W0 hW0 => by (obtain ⟨s0, hs0, hC⟩ := hW0); (have hsk : s0 ≤ 5 := by omega); (refine oM_gen (fun Kv hK => ?_)); simp [go_sem, cell_of_block (hC hsk).1]; (first | exact hK _ _ ⟨rfl, rfl⟩ | exact ⟨by omega, hK _ _ ⟨rfl, rfl⟩⟩)) ?_))
          repeat (first | (with_reducible refine pureH_in ?_) | (with_reducible refine oH_nil ?_) | (with_reducible refine gdH_true rfl ?_) | (with_reducible refine gdH_false rfl ?_) | (refine oH_of ⟨_, rfl⟩ (fun W0 hW0 => by (obtain ⟨s0, hs0, hC⟩ := hW0); (have hsk : s0 ≤ 2 := by omega); (refine oM_gen (fun Kv hK => ?_)); simp [go_sem, cell_of_block (hC (Nat.le_trans hsk (by decide))).1, cell_of_block ((hC (Nat.le_trans hsk (by decide))).2 hsk), dkCells]; (first | exact hK _ _ ⟨rfl, rfl⟩ | exact ⟨by omega, hK _ _ ⟨rfl, rfl⟩⟩)) ?_))
          generalize hw8 : ({ w7 with drawn := w7.drawn + 1 } : World) = w8
          have d8 : IsDk w8 b _ h5 := d7.heap (by rw [← hw8])
          have t8 : Step w b h w8 h5 := t7.trans (Step.fresh (by rw [← hw8]; exact (Fr.refl _ _).drew))
          have p8 : w8.heap[w5.heap.size]? = some (.cells #[.int .i64 f, .int .i64 (n : Int)] 76 (0, 0)) := by rw [← hw8]; exact p7
          clear hw8
          repeat (any_goals ((with_reducible refine idO ?_); (with_reducible refine oM_gen fun Kv hK=>?_); simp [go_sem]; refine hK _ _ ?_; clear hK; clear Kv))
          have hnq : (f, (n : Int)) ∉ q := by assumption
          rw [if_neg hnq] at hp
          have hql : q.length ≤ 4194304 := d8.wf.ql
          have b8 : b < w8.heap.size := d8.lt (.inl (.inl rfl))
          have p8l := (Array.getElem?_eq_some_iff.1 p8).1
          have g9 : Fr (fun _ => False) w8 (w8.alloc (.cells #[.int .i64 f, .int .i64 (n : Int)] 76 (0, 0))) := (Fr.refl _ _).alloc _
          have n9 := heap_alloc_new w8 (.cells #[.int .i64 f, .int .i64 (n : Int)] 76 (0, 0))
          have z9 := alloc_size w8 (.cells #[.int .i64 f, .int .i64 (n : Int)] 76 (0, 0))
          generalize w8.alloc (.cells #[.int .i64 f, .int .i64 (n : Int)] 76 (0, 0)) = w9 at *
          have d9 := d8.fresh g9
          have p9 := (g9.block _ p8l (fun h => h)).trans p8
          refine ⟨fun _ => ⟨p9, fun _ => d9.blk⟩, ?_⟩
          refine append_at 58 58 76 ((Tryz.prog.info? 76).getD default) (.agg #[.int .i64 0, .int .i64 0]) 2 16 (by kernel_rfl) (by kernel_rfl) (by kernel_rfl) (by kernel_rfl) (by kernel_rfl) (by kernel_rfl) (by omega) d9.que (secC (f, (n : Int))) rfl ?_ ?_ (secC_one _) (by simp only [maxLen]; show q.length + 1 ≤ _; omega) (by show (q.length + 1) * 16 ≤ _; omega) ?_
          · intro h; cases h
          · rintro ad hu j x hj
            cases hu
            rw [add_none, Nat.zero_add, cell_of_block n9]
            match j, hj with
            | 0, hj => exact hj
            | 1, hj => exact hj
          intro v' w10 ho hg10 hv
          have hqb : h5.q.ownBlock ≠ some b := fun e => (d9.qne e).1 rfl
          have p10 := (hg10.block w5.heap.size (by omega) (fun e => by
            have hq5 := (owns_own d5.que e.symm).1
            omega)).trans p9
          have b10 := (hg10.block b (by omega) (fun e => hqb e.symm)).trans d9.blk
          have c101 := cell_of_block b10 1
          have y101 := frozen_of_block b10 1
          simp [dkCells] at c101
          obtain ⟨va, vc, rfl⟩ := owns_len ho
          have n11 : b ≠ w5.heap.size := by omega
          have p11 : (w10.setCell ⟨b, 1, none⟩ (.slice va (q.length + 1) vc)).heap[w5.heap.size]? = _ := (setCell_heap_ne w10 ⟨b, 1, none⟩ _ _ (Ne.symm n11)).trans p10
          refine ⟨fun _ => ⟨p10, fun _ => b10⟩, ?_⟩
          obtain ⟨ls, ms, hls⟩ := d9.set
          have hsm9 : h5.sm < w9.heap.size := d9.lt (.inl (.inr (.inr (.inl rfl))))
          have m10 : MapIs secV w10 h5.sm ls := ms.of_block (hg10.block _ hsm9 (fun e => (d9.qne e.symm).2.2 rfl))
          have m11 : MapIs secV (w10.setCell ⟨b, 1, none⟩ (.slice va (q.length + 1) vc)) h5.sm ls := m10.of_block (setCell_heap_ne _ _ _ _ d9.bsm.symm)
          obtain ⟨w12, st, hr12, g12, z12, hst⟩ := run_entryNew (P := Tryz.prog) (t := 57) (et := 4) (z := .bool false) keyS (by kernel_rfl) (fun w => by kernel_rfl) m11 (f, (n : Int)) (by rw [hls]; exact if_neg hnq)
          obtain ⟨w13, hr13, m13, g13, z13⟩ := hst (.bool true)
          simp only [secV] at hr12
          repeat (any_goals (first
          | (with_reducible refine And.intro (fun _ => And.intro p10 (fun hs => absurd hs (by decide))) ?_) | (with_reducible refine And.intro (fun _ => And.intro p11 (fun hs => absurd hs (by decide))) ?_) | (with_reducible refine And.intro (fun hs => absurd hs (by decide)) ?_)
          | ((with_reducible refine idO ?_); (with_reducible refine oM_gen fun Kv hK=>?_); simp [go_sem, c101, y101, hr12, hr13]; refine hK _ _ ?_; clear hK; clear Kv)))
          obtain ⟨d13, t13⟩ := push_done d9 hg10 ho hv m13 hls (grownBy_trans g12 g13) (push_wf d9.wf hmay.2 (by omega) hnq)
          exact ⟨q ++ [(f, (n : Int))], _, d13, t8.trans ((Step.fresh g9).trans t13), hp⟩
      · rintro l u w6 ⟨q', h6, d6, t6, hp6⟩
        repeat (any_goals ((with_reducible refine idO ?_); (with_reducible refine oM_gen fun Kv hK=>?_); simp [go_sem]; (try simp (disch := omega) only [wrapI64, wrapU8, wrapU32, wrapU64]); refine hK _ _ ?_; clear hK; clear Kv))
        refine ⟨⟨n + 1, q', h6, by simp, by omega, d6, t6, hp6⟩, ?_⟩
        show ((m : Int) + 1 - ((n : Int) + 1)).toNat < _
        omega
    · rw [secsFrom_gt (by omega)] at hp
      have hp : q = _ := hp
      refine k0 w5 h5 ?_ t5
      have e : addA A f a s = { A with F := setF A.F f (putB (A.F f).1 a s, (A.F f).2), queue := q } := by
        unfold addA
        rw [if_neg hsne, hp]
      rw [e]
      exact d5
  · exact k' (mayA A f) A (by rw [if_pos hg]) w h d (Step.refl _ _ _)
end
end Go.Proofs
namespace Go.Proofs
open Go Go.Sh Go.RowKit DkSpec
set_option linter.unusedSimpArgs false
set_option maxRecDepth 10000
attribute [local go_sem] oM_indexAddr
section
variable {w : World} {b : Nat} {A : Ab} {h : Dk} {K : Value → World → Prop}
theorem isBody56 : isBody Tryz.prog 70 = true := by kernel_rfl
theorem isBody58 : isBody Tryz.prog 72 = true := by kernel_rfl
theorem test1_ok {x : Nat} {f : Int} (p : Int × Int) (hx : w.heap[x]? = some (.cells #[.int .i64 f] 3 (0, 0))) (k : ∀ w', Fr (fun _ => False) w w' → K (.bool (decide (p.1 = f))) w') : callM Tryz.prog 70 #[.agg #[.int .i64 p.1, .int .i64 p.2], .pointer (some ⟨x, 0, none⟩)] K w := by
  apply sh_70_ok
  unfold sh_70
  have hlt := (Array.getElem?_eq_some_iff.1 hx).1
  have f0 : Fr (fun _ => False) w (w.alloc (.cells #[.int .i64 p.1, .int .i64 p.2] 76 (0, 0))) := (Fr.refl _ _).alloc _
  have hx2 := (f0.block x hlt (fun h => h)).trans hx
  have e := cell_of_block hx2 0
  simp at e
  repeat (any_goals ((with_reducible refine idO ?_); (with_reducible refine oM_gen fun Kv hK=>?_); simp [go_sem, e]; refine hK _ _ ?_; clear hK; clear Kv))
  exact k _ f0
theorem test2_ok {x : Nat} {f : Int} (p : Int × Int) (v : Value) (hx : w.heap[x]? = some (.cells #[.int .i64 f] 3 (0, 0))) (k : ∀ w', Fr (fun _ => False) w w' → K (.bool (decide (p.1 = f))) w') : callM Tryz.prog 72 #[.agg #[.int .i64 p.1, .int .i64 p.2], v, .pointer (some ⟨x, 0, none⟩)] K w := by
  apply sh_72_ok
  unfold sh_72
  have hlt := (Array.getElem?_eq_some_iff.1 hx).1
  have f0 : Fr (fun _ => False) w (w.alloc (.cells #[.int .i64 p.1, .int .i64 p.2] 76 (0, 0))) := (Fr.refl _ _).alloc _
  have hx2 := (f0.block x hlt (fun h => h)).trans hx
  have e := cell_of_block hx2 0
  simp at e
  repeat (any_goals ((with_reducible refine idO ?_); (with_reducible refine oM_gen fun Kv hK=>?_); simp [go_sem, e]; refine hK _ _ ?_; clear hK; clear Kv))
  exact k _ f0
def idxOf (f : Int) : List (Int × Int) → Int
  | [] => -1
  | p :: q => if p.1 = f then 0 else if idxOf f q = -1 then -1 else idxOf f q + 1
theorem idxOf_split (f : Int) (q : List (Int × Int)) : (idxOf f q = -1 ∧ ∀ p ∈ q, p.1 ≠ f) ∨ ∃ q1 p q2, q = q1 ++ p :: q2 ∧ p.1 = f ∧ (∀ r ∈ q1, r.1 ≠ f) ∧ idxOf f q = q1.length := by
  induction q with
  | nil => exact .inl ⟨rfl, by simp⟩
  | cons p q ih =>
    by_cases hp : p.1 = f
    · exact .inr ⟨[], p, q, rfl, hp, by simp, by simp [idxOf, hp]⟩
    · rcases ih with ⟨h1, h2⟩ | ⟨q1, r, q2, rfl, h2, h3, h4⟩
      · refine .inl ⟨by simp [idxOf, hp, h1], ?_⟩
        intro r hr
        rcases List.mem_cons.1 hr with rfl | hr
        · exact hp
        · exact h2 r hr
      · refine .inr ⟨p :: q1, r, q2, rfl, h2, ?_, ?_⟩
        · intro x hx
          rcases List.mem_cons.1 hx with rfl | hx
          · exact hp
          · exact h3 x hx
        · simp only [idxOf, hp, if_false, h4, List.length_cons]
          rw [if_neg (by omega)]
          omega
theorem idxOf_drop (f : Int) (q : List (Int × Int)) (j : Nat) (hj : ∀ p ∈ q.take j, p.1 ≠ f) (p : Int × Int) (hp : q[j]? = some p) (hf : p.1 = f) : idxOf f q = j := by
  induction q generalizing j with
  | nil => simp at hp
  | cons r q ih =>
    cases j with
    | zero =>
      simp only [List.getElem?_cons_zero, Option.some.injEq] at hp
      subst hp
      simp [idxOf, hf]
    | succ j =>
      have hr : r.1 ≠ f := hj r (by simp)
      have := ih j (fun x hx => hj x (by simp [hx])) (by simpa using hp)
      simp only [idxOf, hr, if_false, this]
      rw [if_neg (by omega)]
      omega
theorem idxOf_none (f : Int) (q : List (Int × Int)) (h : ∀ p ∈ q, p.1 ≠ f) : idxOf f q = -1 := by
  induction q with
  | nil => rfl
  | cons r q ih =>
    have hr : r.1 ≠ f := h r (List.mem_cons_self ..)
    simp [idxOf, hr, ih (fun p hp => h p (List.mem_cons_of_mem _ hp))]
theorem sec_cells {v : Value} {q : List (Int × Int)} (ho : w.ownsRow 0 76 2 v q.length (flat secC q)) {j : Nat} {p : Int × Int} (hj : q[j]? = some p) : ∃ g c, v = .slice (some ⟨g, 0, none⟩) q.length c ∧ w.cell? ⟨g, j * 2, none⟩ = some (.int .i64 p.1) ∧ w.cell? ⟨g, j * 2 + 1, none⟩ = some (.int .i64 p.2) := by
  have hlt := (List.getElem?_eq_some_iff.1 hj).1
  obtain ⟨g, cap, cur, rfl, _, _, _, _, _, hc⟩ := owns_cells ho (by omega)
  refine ⟨g, cap, rfl, hc _ _ ?_, hc _ _ ?_⟩
  · have := flat_at secC_len q j 0 hj (by omega)
    simpa [secC] using this
  · have := flat_at secC_len q j 1 hj (by omega)
    simpa [secC] using this
theorem idxSec {g n c k : Nat} (hk : k < n) (w : World) : (Instr.indexAt 58 (.slice (some ⟨g, 0, none⟩) n c) (.int .i64 k)).run Tryz.prog w = .ok (.pointer (some ⟨g, k * 2, none⟩)) w := by
  rw [run_indexAt_slice (h := by kernel_rfl), if_pos (by omega)]
  have hs : (sizeOf (Tryz.prog.elem 58)).run Tryz.prog w = .ok 2 w := by kernel_rfl
  rw [hs]
  simp only [Result.andThen, Int.toNat_natCast, add_none, Nat.zero_add]
theorem index_ok {x : Nat} {f : Int} {v : Value} {q : List (Int × Int)} (hq : q.length < 2 ^ 40) (hx : w.heap[x]? = some (.cells #[.int .i64 f] 3 (0, 0))) (ho : w.ownsRow 0 76 2 v q.length (flat secC q)) (k : ∀ w', Fr (fun _ => False) w w' → K (.int .i64 (idxOf f q)) w') : callM Tryz.prog 84 #[v, .func (.func 70) #[] #[.pointer (some ⟨x, 0, none⟩)]] K w := by
  apply sh_84_ok
  unfold sh_84
  obtain ⟨va, vc, rfl⟩ := owns_len ho
  repeat (any_goals ((with_reducible refine idO ?_); (with_reducible refine oM_gen fun Kv hK=>?_); simp [go_sem]; refine hK _ _ ?_; clear hK; clear Kv))
  refine ⟨fun l w' => ∃ u1 u2, ∃ j : Nat, l = [u1, u2, .int .i64 (j : Int)] ∧ j ≤ q.length ∧ (∀ p ∈ q.take j, p.1 ≠ f) ∧ Fr (fun _ => False) w w', fun l _ => match l with | [_, _, .int _ n] => ((q.length : Int) - n).toNat | _ => 0, ⟨_, _, 0, rfl, by omega, by simp, Fr.refl _ _⟩, ?_⟩
  rintro l u w1 ⟨u1, u2, j, rfl, hj, hpre, fr⟩
  simp only [List.getD_cons_zero, List.getD_cons_succ]
  repeat (any_goals (first
  | (with_reducible ((refine idCond ?_); refine yP (fun hg=>?_) fun hg=>?_))
  | ((with_reducible refine idO ?_); (with_reducible refine oM_gen fun Kv hK=>?_); simp [go_sem]; refine hK _ _ ?_; clear hK; clear Kv)))
  · have hlt : j < q.length := by omega
    have hx1 := (fr.block x (Array.getElem?_eq_some_iff.1 hx).1 (fun h => h)).trans hx
    have ho1 : w1.ownsRow 0 76 2 (.slice va q.length vc) q.length (flat secC q) := owns_keep ho (fun i hi => fr.block i (owns_own ho hi).1 (fun h => h))
    obtain ⟨g, c, hv, e0, e1⟩ := sec_cells ho1 (List.getElem?_eq_getElem hlt)
    cases hv
    have hix := idxSec (c := vc) (g := g) hlt w1
    repeat (any_goals (first
    | (with_reducible refine oM_callv1 isBody56 ?_)
    | ((with_reducible refine idO ?_); (with_reducible refine oM_gen fun Kv hK=>?_); simp [go_sem, hix, e0, e1]; refine hK _ _ ?_; clear hK; clear Kv)))
    refine test1_ok (f := f) q[j] hx1 (fun w2 f2 => ?_)
    repeat (any_goals (first
    | (with_reducible ((refine idCond ?_); refine yP (fun hg=>?_) fun hg=>?_))
    | ((with_reducible refine idO ?_); (with_reducible refine oM_gen fun Kv hK=>?_); simp [go_sem]; (try simp (disch := omega) only [wrapI64, wrapU8, wrapU32, wrapU64]); refine hK _ _ ?_; clear hK; clear Kv)))
    · have hg' : q[j].1 = f := by assumption
      rw [idxOf_drop f q j hpre _ (List.getElem?_eq_getElem hlt) hg'] at k
      exact k w2 (fr.trans f2 (fun _ h => h.elim))
    · have hg' : ¬ q[j].1 = f := by assumption
      refine ⟨⟨_, _, j + 1, rfl, by omega, ?_, fr.trans f2 (fun _ h => h.elim)⟩, ?_⟩
      · intro p hp
        rw [List.take_succ_eq_append_getElem hlt] at hp
        rcases List.mem_append.1 hp with hp | hp
        · exact hpre p hp
        · simp only [List.mem_singleton] at hp
          rw [hp]; exact hg'
      · show ((q.length : Int) - ((j : Int) + 1)).toNat < _
        omega
  · rw [idxOf_none f q (by
      rw [List.take_of_length_le (by omega)] at hpre
      exact hpre)] at k
    exact k w1 fr
theorem clear_at {t T e : TypeId} {z : Value} {g o n c : Nat} {cur : Array Value} {zs : List Value} (ht : Tryz.prog.underlying t = some (.slice e)) (hv : ∀ w, (zeroValue e).run Tryz.prog w = .ok z w) (hn : 0 < n) (hzs : (Builtin.zeroCells z.cells n).toList = zs) (h1 : ∀ v ∈ zs, v.oneCell' = true) (hg : w.heap[g]? = some (.cells cur e (0, 0))) (hfit : o + zs.length ≤ cur.size)
    (k : ∀ w' cur', w.grownBy w' (some g) → w'.heap[g]? = some (.cells cur' e (0, 0)) → cur'.size = cur.size → (∀ i, i < o → cur'[i]? = cur[i]?) → K (.tuple #[]) w') : oM Tryz.prog (.call { callee := .builtin .clear, args := #[.tmp 0], argTypes := #[t] }) T [.slice (some ⟨g, o, none⟩) n c] K w := by
  have hst := run_storeCells_at Tryz.prog g o e zs 0 cur w hg (by simpa using hfit) h1
  rw [oM_clear]
  have hr : (Builtin.clear_ #[t] T #[.slice (some ⟨g, o, none⟩) n c]).run Tryz.prog w = .ok (.tuple #[]) (w.setRow g (cur.toList.take o ++ zs ++ cur.toList.drop (o + zs.length)).toArray) := by
    obtain ⟨m, rfl⟩ : ∃ m, n = m + 1 := ⟨n - 1, by omega⟩
    simp only [Nat.add_zero] at hst
    simp [Builtin.clear_, run_underlying ht, hv, hzs, hst]
  rw [hr]
  refine k _ _ (grown_setRow _ _ _) (setRow_heap w g _ _ e (0, 0) hg) ?_ ?_
  · simp
    omega
  · intro i hi
    simp only [List.getElem?_toArray, List.append_assoc]
    rw [List.getElem?_append_left (by simp; omega), List.getElem?_take_of_lt hi]
    simp
theorem store2_at {t T e : TypeId} {x y : Value} {g o : Nat} {cur : Array Value} (hs : ∀ w, (sizeOf t).run Tryz.prog w = .ok 2 w) (hx : x.oneCell' = true) (hy : y.oneCell' = true) (hg : w.heap[g]? = some (.cells cur e (0, 0))) (hfit : o + 2 ≤ cur.size)
    (k : ∀ w' cur', w.grownBy w' (some g) → w'.heap[g]? = some (.cells cur' e (0, 0)) → cur'.size = cur.size → (∀ i, i ≠ o → i ≠ o + 1 → cur'[i]? = cur[i]?) → cur'[o]? = some x → cur'[o + 1]? = some y → K undef w') : oM Tryz.prog (.store t (.tmp 0) (.tmp 1)) T [.pointer (some ⟨g, o, none⟩), .agg #[x, y]] K w := by
  have hst := run_storeCells_at Tryz.prog g o e [x, y] 0 cur w hg (by simpa using hfit) (by
    intro v hv
    simp at hv
    rcases hv with rfl | rfl
    · exact hx
    · exact hy)
  rw [oM_store]
  have hr : (Instr.storeAt t (.pointer (some ⟨g, o, none⟩)) (.agg #[x, y])).run Tryz.prog w = .ok () (w.setRow g (cur.toList.take o ++ [x, y] ++ cur.toList.drop (o + 2)).toArray) := by
    simp only [Nat.add_zero, List.length_cons, List.length_nil, Nat.zero_add] at hst
    have e2 : (Value.agg #[x, y]).cells = #[x, y] := rfl
    simp [Instr.storeAt, storeVar, hs, e2, go_sem]
    simpa [go_sem] using hst
  rw [hr]
  have hl : (cur.toList.take o).length = o := by simp; omega
  refine k _ _ (grown_setRow _ _ _) (setRow_heap w g _ _ e (0, 0) hg) ?_ ?_ ?_ ?_
  · simp
    omega
  · intro i h1 h2
    simp only [List.getElem?_toArray, List.append_assoc, List.cons_append, List.nil_append]
    by_cases hi : i < o
    · rw [List.getElem?_append_left (by rw [hl]; exact hi), List.getElem?_take_of_lt hi]
      simp
    · rw [List.getElem?_append_right (by rw [hl]; omega), hl]
      obtain ⟨m, rfl⟩ : ∃ m, i = o + (m + 2) := ⟨i - o - 2, by omega⟩
      have e3 : o + (m + 2) - o = m + 2 := by omega
      rw [e3]
      simp only [List.getElem?_cons_succ, List.getElem?_drop, Array.getElem?_toList]
      congr 1
      omega
  · simp only [List.getElem?_toArray, List.append_assoc, List.cons_append, List.nil_append]
    rw [List.getElem?_append_right (by rw [hl]; omega), hl]
    simp
  · simp only [List.getElem?_toArray, List.append_assoc, List.cons_append, List.nil_append]
    rw [List.getElem?_append_right (by rw [hl]; omega), hl]
    have e3 : o + 1 - o = 1 := by omega
    rw [e3]
    simp
theorem zero_sec (n : Nat) : (Builtin.zeroCells (Value.agg #[.int .i64 0, .int .i64 0]).cells n).toList.length = n * 2 ∧ ∀ v ∈ (Builtin.zeroCells (Value.agg #[.int .i64 0, .int .i64 0]).cells n).toList, v.oneCell' = true := by
  constructor
  · simp [Builtin.zeroCells, Value.cells]
  · intro v hv
    simp only [Builtin.zeroCells, Array.toList_map, List.mem_map] at hv
    obtain ⟨i, _, rfl⟩ := hv
    have : i % 2 = 0 ∨ i % 2 = 1 := by omega
    rcases this with e | e <;> simp [Value.cells, e, Value.oneCell']
def keepQ (f : Int) (q : List (Int × Int)) : List (Int × Int) := q.filter (fun p => decide (p.1 ≠ f))
theorem keepQ_take (f : Int) (q : List (Int × Int)) (j : Nat) (h : j < q.length) : keepQ f (q.take (j + 1)) = if q[j].1 = f then keepQ f (q.take j) else keepQ f (q.take j) ++ [q[j]] := by
  unfold keepQ
  rw [List.take_succ_eq_append_getElem h, List.filter_append]
  by_cases hf : q[j].1 = f
  · rw [if_pos hf]; simp [hf]
  · rw [if_neg hf]; simp [hf]
def Taking (w : World) (g cap : Nat) (f : Int) (q : List (Int × Int)) (j : Nat) : Prop :=
  ∃ cur : Array Value, w.heap[g]? = some (.cells cur 76 (0, 0)) ∧ cur.size = cap * 2 ∧ (∀ (k : Nat) (x : Value), (flat secC (keepQ f (q.take j)))[k]? = some x → cur[k]? = some x) ∧ (∀ (k : Nat) (x : Value), 2 * j ≤ k → (flat secC q)[k]? = some x → cur[k]? = some x)
theorem delete_ok {x : Nat} {f : Int} {v : Value} {q : List (Int × Int)} (hq : q.length < 2 ^ 40) (hx : w.heap[x]? = some (.cells #[.int .i64 f] 3 (0, 0))) (ho : w.ownsRow 0 76 2 v q.length (flat secC q)) (k : ∀ v' w', w'.ownsRow 0 76 2 v' (keepQ f q).length (flat secC (keepQ f q)) → Fr (fun i => v.ownBlock = some i) w w' → (∀ i, v'.ownBlock = some i → v.ownBlock = some i) → K v' w') : callM Tryz.prog 69 #[v, .func (.func 70) #[] #[.pointer (some ⟨x, 0, none⟩)]] K w := by
  apply sh_69_ok
  unfold sh_69
  refine index_ok hq hx ho (fun w1 f1 => ?_)
  have hx1 := (f1.block x (Array.getElem?_eq_some_iff.1 hx).1 (fun h => h)).trans hx
  have ho1 : w1.ownsRow 0 76 2 v q.length (flat secC q) := owns_keep ho (fun i hi => f1.block i (owns_own ho hi).1 (fun h => h))
  rcases idxOf_split f q with ⟨hi, hall⟩ | ⟨q1, p, q2, hsp, hpf, hpre, hi⟩
  · rw [hi]
    have hk : keepQ f q = q := List.filter_eq_self.2 (fun p hp => by simpa using hall p hp)
    rw [hk] at k
    repeat (any_goals (first
    | (with_reducible ((refine idCond ?_); refine yL ?_))
    | ((with_reducible refine idO ?_); (with_reducible refine oM_gen fun Kv hK=>?_); simp [go_sem]; refine hK _ _ ?_; clear hK; clear Kv)))
    exact k v w1 ho1 (f1.mono (fun _ _ h => h.elim)) (fun i h => h)
  · rw [hi]
    have hlen : q.length = q1.length + 1 + q2.length := by rw [hsp]; simp; omega
    obtain ⟨g, cap, cur, rfl, hg, _, hcur, hcs, hnc, hcell⟩ := owns_cells ho1 (by omega)
    have ht1 : q.take q1.length = q1 := by rw [hsp]; simp
    have hk1 : keepQ f (q.take q1.length) = q1 := by
      rw [ht1]
      exact List.filter_eq_self.2 (fun p hp => by simpa using hpre p hp)
    have hqg : q[q1.length]? = some p := by rw [hsp]; simp
    have hk2 : keepQ f (q.take (q1.length + 1)) = q1 := by
      rw [keepQ_take f q q1.length (by omega), hk1, if_pos]
      rw [List.getElem?_eq_getElem (by omega)] at hqg
      rw [Option.some.inj hqg]; exact hpf
    have hcf : ∀ (k : Nat) (x : Value), (flat secC q)[k]? = some x → cur[k]? = some x := fun k x h => by
      have := hcell k x h
      rw [cell_of_block hcur] at this
      exact this
    have hxg : x ≠ g := fun e => by rw [e, hcur] at hx1; cases hx1
    repeat (any_goals (first
    | (with_reducible ((refine idCond ?_); refine yM ?_))
    | ((with_reducible refine idO ?_); (with_reducible refine oM_gen fun Kv hK=>?_); simp [go_sem]; (try simp (disch := omega) only [wrapI64, wrapU8, wrapU32, wrapU64]); refine hK _ _ ?_; clear hK; clear Kv)))
    have T1 : Taking w1 g cap f q (q1.length + 1) := ⟨cur, hcur, hcs, fun k x h => by
      rw [hk2] at h
      refine hcf k x ?_
      rw [hsp, flat_append]
      rw [List.getElem?_append_left (by have := (List.getElem?_eq_some_iff.1 h).1; exact this)]
      exact h, fun k x _ h => hcf k x h⟩
    refine ⟨fun l w' => ∃ j : Nat, l = [.int .i64 ((keepQ f (q.take j)).length : Int), .int .i64 (j : Int)] ∧ (keepQ f (q.take j)).length + 1 ≤ j ∧ j ≤ q.length ∧ Taking w' g cap f q j ∧ Fr (fun i => i = g) w w', fun l _ => match l with | [_, .int _ n] => ((q.length : Int) - n).toNat | _ => 0, ⟨q1.length + 1, by rw [hk2]; rfl, by rw [hk2]; omega, by omega, T1, f1.mono (fun _ _ h => h.elim)⟩, ?_⟩
    rintro l u w2 ⟨j, rfl, hij, hjn, T2, f2⟩
    simp only [List.getD_cons_zero, List.getD_cons_succ]
    repeat (any_goals (first
    | (with_reducible ((refine idCond ?_); refine yP (fun hg=>?_) fun hg=>?_))
    | ((with_reducible refine idO ?_); (with_reducible refine oM_gen fun Kv hK=>?_); simp [go_sem]; refine hK _ _ ?_; clear hK; clear Kv)))
    · have hlt : j < q.length := by omega
      obtain ⟨cur2, hcur2, hcs2, hlo2, hhi2⟩ := T2
      have hx2 := (f2.block x (Array.getElem?_eq_some_iff.1 hx).1 (fun h => hxg h)).trans hx
      have e0 : w2.cell? ⟨g, j * 2, none⟩ = some (.int .i64 q[j].1) := by
        rw [cell_of_block hcur2]
        exact hhi2 _ _ (by omega) (by have := flat_at secC_len q j 0 (List.getElem?_eq_getElem hlt) (by omega); simpa [secC] using this)
      have e1 : w2.cell? ⟨g, j * 2 + 1, none⟩ = some (.int .i64 q[j].2) := by
        rw [cell_of_block hcur2]
        exact hhi2 _ _ (by omega) (by have := flat_at secC_len q j 1 (List.getElem?_eq_getElem hlt) (by omega); simpa [secC] using this)
      have hix := idxSec (c := cap) (g := g) hlt w2
      refine ⟨fun l w' => l = [.int .i64 ((keepQ f (q.take (j + 1))).length : Int)] ∧ (keepQ f (q.take (j + 1))).length + 1 ≤ j + 1 ∧ Taking w' g cap f q (j + 1) ∧ Fr (fun i => i = g) w w', ?_, ?_⟩
      · repeat (any_goals ((with_reducible refine idO ?_); (with_reducible refine oM_gen fun Kv hK=>?_); simp [go_sem, hix, e0, e1]; refine hK _ _ ?_; clear hK; clear Kv))
        have pf : Fr (fun _ => False) w2 (w2.alloc (.cells #[.int .i64 q[j].1, .int .i64 q[j].2] 76 (0, 0))) := (Fr.refl _ _).alloc _
        have p0 := heap_alloc_new w2 (.cells #[.int .i64 q[j].1, .int .i64 q[j].2] 76 (0, 0))
        have pz := alloc_size w2 (.cells #[.int .i64 q[j].1, .int .i64 q[j].2] 76 (0, 0))
        generalize w2.alloc (.cells #[.int .i64 q[j].1, .int .i64 q[j].2] 76 (0, 0)) = w3 at *
        have hx3 := (pf.block x (Array.getElem?_eq_some_iff.1 hx2).1 (fun h => h)).trans hx2
        refine oM_callv1 isBody56 (test1_ok (f := f) q[j] hx3 (fun w4 f4 => ?_))
        have hg2 := (Array.getElem?_eq_some_iff.1 hcur2).1
        have f24 := pf.trans f4 (fun _ h => h.elim)
        have hcur4 := (f24.block g hg2 (fun h => h)).trans hcur2
        have p4 := (f4.block w2.heap.size (by omega) (fun h => h)).trans p0
        have p40 := cell_of_block p4 0
        have p41 := cell_of_block p4 1
        simp at p40 p41
        have fr4 : Fr (fun i => i = g) w w4 := f2.trans f24 (fun _ h => h.elim)
        have hkt := keepQ_take f q j hlt
        have hix4 := idxSec (c := cap) (g := g) (n := q.length) (k := (keepQ f (q.take j)).length) (by omega) w4
        obtain ⟨i, hii⟩ : ∃ i, i = (keepQ f (q.take j)).length := ⟨_, rfl⟩
        rw [← hii] at hix4 hij ⊢
        have z0 := cell_of_block hcur4 (i * 2)
        have z1 := frozen_of_block hcur4 (i * 2)
        have z3 := frozen_of_block hcur4 (i * 2 + 1)
        have s0 : (cur2[i * 2]?).isSome = true := by simp; omega
        have s1 : (cur2[i * 2 + 1]?).isSome = true := by simp; omega
        have T4 : (∀ (k : Nat) (x : Value), 2 * (j + 1) ≤ k → (flat secC q)[k]? = some x → cur2[k]? = some x) := fun k x h1 h2 => hhi2 k x (by omega) h2
        repeat (any_goals (first
        | (with_reducible ((refine idCond ?_); refine yS (fun hg=>?_) fun hg=>?_))
        | ((with_reducible refine idO ?_); (with_reducible refine oM_gen fun Kv hK=>?_); simp [go_sem, p40, p41, hix4]; refine hK _ _ ?_; clear hK; clear Kv)))
        · have hpf' : q[j].1 = f := by assumption
          rw [if_pos hpf'] at hkt
          refine ⟨by rw [hkt, hii], by rw [hkt]; omega, ⟨cur2, hcur4, hcs2, by rw [hkt]; exact hlo2, T4⟩, fr4⟩
        · have hpf' : ¬ q[j].1 = f := by assumption
          rw [if_neg hpf'] at hkt
          refine store2_at (fun w => by kernel_rfl) rfl rfl hcur4 (by omega) (fun w5 cur5 hg5 hcur5 hs5 hne5 ha5 hb5 => ?_)
          repeat (any_goals ((with_reducible refine idO ?_); (with_reducible refine oM_gen fun Kv hK=>?_); simp [go_sem]; (try simp (disch := omega) only [wrapI64, wrapU8, wrapU32, wrapU64]); refine hK _ _ ?_; clear hK; clear Kv))
          have hfl := flat_length secC_len (keepQ f (q.take j))
          refine ⟨by rw [hkt, List.length_append, ← hii]; rfl, by rw [hkt, List.length_append, ← hii]; simp; omega, ⟨cur5, hcur5, by rw [hs5, hcs2], ?_, ?_⟩, fr4.by hg5 (fun i hi => by cases hi; exact .inl rfl)⟩
          · intro k x hk
            rw [hkt, flat_snoc] at hk
            by_cases hki : k < i * 2
            · rw [List.getElem?_append_left (by rw [hfl, ← hii]; exact hki)] at hk
              rw [hne5 k (by omega) (by omega)]
              exact hlo2 k x hk
            · rw [List.getElem?_append_right (by rw [hfl, ← hii]; omega), hfl, ← hii] at hk
              have hk2 : k - i * 2 < 2 := by have := (List.getElem?_eq_some_iff.1 hk).1; exact this
              obtain ⟨m, rfl⟩ : ∃ m, k = i * 2 + m := ⟨k - i * 2, by omega⟩
              have e3 : i * 2 + m - i * 2 = m := by omega
              rw [e3] at hk hk2
              match m, hk2, hk with
              | 0, _, hk => rw [Nat.add_zero, ha5]; exact hk
              | 1, _, hk => rw [hb5]; exact hk
          · intro k x h1 h2
            rw [hne5 k (by omega) (by omega)]
            exact T4 k x h1 h2
      · rintro l u w3 ⟨rfl, hij3, T3, f3⟩
        simp only [List.getD_cons_zero]
        repeat (any_goals ((with_reducible refine idO ?_); (with_reducible refine oM_gen fun Kv hK=>?_); simp [go_sem]; (try simp (disch := omega) only [wrapI64, wrapU8, wrapU32, wrapU64]); refine hK _ _ ?_; clear hK; clear Kv))
        refine ⟨⟨j + 1, rfl, hij3, by omega, T3, f3⟩, ?_⟩
        show ((q.length : Int) - ((j : Int) + 1)).toNat < _
        omega
    · have hjq : j = q.length := by omega
      subst hjq
      obtain ⟨cur2, hcur2, hcs2, hlo2, hhi2⟩ := T2
      have htk : q.take q.length = q := List.take_of_length_le (Nat.le_refl _)
      rw [htk] at hij hlo2 ⊢
      obtain ⟨hz1, hz2⟩ := zero_sec (q.length - (keepQ f q).length)
      refine sliceFrom_at (sz := 2) (by kernel_rfl) (fun w => by kernel_rfl) _ (by omega) (by omega) ?_
      rw [Nat.zero_add]
      refine clear_at (by kernel_rfl) (z := .agg #[.int .i64 0, .int .i64 0]) (fun w => by kernel_rfl) (by omega) rfl hz2 hcur2 (by rw [hz1]; omega) (fun w3 cur3 hg3 hcur3 hs3 hlo3 => ?_)
      refine sliceTo_at (sz := 2) (by kernel_rfl) (fun w => by kernel_rfl) _ (by omega) ?_
      have f3 : Fr (fun i => i = g) w w3 := f2.by hg3 (fun i hi => by cases hi; exact .inl rfl)
      have hfl := flat_length secC_len (keepQ f q)
      refine k _ w3 ⟨hfl, .inr ⟨g, cap, cur3, rfl, Nat.zero_le _, hcur3, by omega, ?_, by rw [hs3, hcs2], ?_⟩⟩ (f3.mono (fun i _ hi => by rw [hi]; rfl)) (fun i hi => hi)
      · rcases ho.2 with ⟨h1, _⟩ | ⟨g', cap', cur', h1, _, _, _, hm, _⟩
        · cases h1
        · cases h1; exact hm
      · apply List.ext_getElem?
        intro i
        by_cases hi : i < (keepQ f q).length * 2
        · rw [List.getElem?_take_of_lt hi]
          have hx' : (flat secC (keepQ f q))[i]? = some ((flat secC (keepQ f q))[i]'(by rw [hfl]; exact hi)) := List.getElem?_eq_getElem _
          rw [hx', Array.getElem?_toList, hlo3 i hi]
          exact hlo2 i _ hx'
        · rw [List.getElem?_eq_none (by simp; omega), List.getElem?_eq_none (by rw [hfl]; omega)]
end
end Go.Proofs
namespace Go.Sh
open Go Go.RowKit
theorem nodup_sub_len {κ : Type} [DecidableEq κ] (d ks : List κ) (hn : d.Nodup) (hs : ∀ x ∈ d, x ∈ ks) : d.length ≤ ks.length := by
  induction d generalizing ks with
  | nil => simp
  | cons a d ih =>
    rw [List.nodup_cons] at hn
    have ha := hs a (List.mem_cons_self ..)
    have := ih (ks.erase a) hn.2 (fun x hx => by
      have hne : x ≠ a := fun e => hn.1 (by rw [← e]; exact hx)
      exact (List.mem_erase_of_ne hne).2 (hs x (List.mem_cons_of_mem _ hx)))
    rw [List.length_erase_of_mem ha] at this
    have := List.length_pos_of_mem ha
    simp only [List.length_cons]
    omega
@[go_sem] theorem oM_extract1 {P : Program} {K : Value → World → Prop} {w : World} (T : TypeId) (a : Value) : oM P (.extract (.tmp 0) 0) T [.tuple #[a]] K w = K a w := oM_of_run rfl
section
variable {w : World} {κ : Type} [DecidableEq κ] {mk : κ → Value}
theorem Ranged.seen {it b : Nat} {l : List (κ × Value)} {ks done : List κ} (h : Ranged mk w it b l ks done) : (w.iterSeen it).size = done.length := by
  obtain ⟨es, clock, seen, f, h1, h2, h3, h4, h5, h6, h7, h8, _⟩ := h
  unfold World.iterSeen
  rw [h2]
  have := congrArg List.length h8
  simpa using this
theorem Ranged.sub {it b : Nat} {l : List (κ × Value)} {ks done : List κ} (h : Ranged mk w it b l ks done) : ∀ a ∈ done, a ∈ ks := by
  obtain ⟨es, clock, seen, f, h1, h2, h3, h4, h5, h6, h7, h8, h9, h10⟩ := h
  exact h10
end
end Go.Sh
namespace Go.Proofs
open Go Go.Sh Go.RowKit DkSpec
set_option linter.unusedSimpArgs false
set_option maxRecDepth 10000
attribute [local go_sem] oM_indexAddr
section
variable {w : World} {b : Nat} {A : Ab} {h : Dk} {K : Value → World → Prop}
theorem oM_callv2 {P : Program} {f : FuncId} {fs cs : Array Value} {T : TypeId} {ts : Array TypeId} {x y : Value} (hb : isBody P f = true) (h : callM P f (fs ++ #[x, y] ++ cs) K w) : oM P (.call { callee := .value (.tmp 0), args := #[.tmp 1, .tmp 2], argTypes := ts }) T [.func (.func f) fs cs, x, y] K w :=
  oM_callv _ hb (by simp [xop, execOp, evalL, evE, resolve, Deferred.ofValue, invoke]) h
theorem deleteMap_ok {x sm : Nat} {f : Int} {ls : List ((Int × Int) × Value)} (hx : w.heap[x]? = some (.cells #[.int .i64 f] 3 (0, 0))) (m : MapIs secV w sm ls) (k : ∀ w', MapIs secV w' sm (ls.filter (fun y => decide (y.1.1 ≠ f))) → Fr (fun i => i = sm) w w' → K (.tuple #[]) w') : callM Tryz.prog 71 #[.map (some sm), .func (.func 72) #[] #[.pointer (some ⟨x, 0, none⟩)]] K w := by
  apply sh_71_ok
  unfold sh_71
  obtain ⟨o, hr, R⟩ := run_range (P := Tryz.prog) (t := 57) (kt := 76) (et := 4) (by kernel_rfl) m
  have f0 : Fr (fun i => i = sm) w (w.alloc o) := (Fr.refl _ _).alloc _
  repeat (any_goals ((with_reducible refine idO ?_); (with_reducible refine oM_gen fun Kv hK=>?_); simp [go_sem, hr]; refine hK _ _ ?_; clear hK; clear Kv))
  generalize w.alloc o = w0 at *
  have hsm : sm < w.heap.size := m.lt
  refine ⟨fun l w' => ∃ u done, l = [u] ∧ done.Nodup ∧ Ranged secV w' w.heap.size sm (ls.filter (fun y => decide (¬ (y.1 ∈ done ∧ y.1.1 = f)))) (ls.map (·.1)) done ∧ Fr (fun i => i = sm) w w', fun _ w' => (ls.map (·.1)).length + 1 - (w'.iterSeen w.heap.size).size, ⟨_, [], rfl, List.nodup_nil, by
    have e : ls.filter (fun y => decide (¬ (y.1 ∈ ([] : List (Int × Int)) ∧ y.1.1 = f))) = ls := List.filter_eq_self.2 (fun y _ => by simp)
    rw [e]; exact R, f0⟩, ?_⟩
  rintro l u w1 ⟨u1, done, rfl, hnd, R1, f1⟩
  have hlen := nodup_sub_len done _ hnd R1.sub
  have hseen := R1.seen
  rcases run_next (P := Tryz.prog) (ty := 0) R1 with ⟨hall, hn⟩ | ⟨y, hy, hyd, w2, hn, R2, g2, z2⟩
  · repeat (any_goals (first
    | (with_reducible ((refine idCond ?_); refine yM ?_))
    | ((with_reducible refine idO ?_); (with_reducible refine oM_gen fun Kv hK=>?_); simp [go_sem, hn]; refine hK _ _ ?_; clear hK; clear Kv)))
    refine k w1 ?_ f1
    have := R1.map
    have e : ls.filter (fun y => decide (¬ (y.1 ∈ done ∧ y.1.1 = f))) = ls.filter (fun y => decide (y.1.1 ≠ f)) := by
      apply List.filter_congr
      intro y hy
      by_cases hf : y.1.1 = f
      · by_cases hd : y.1 ∈ done
        · simp [hf, hd]
        · have hy' : y ∈ ls.filter (fun y => decide (¬ (y.1 ∈ done ∧ y.1.1 = f))) := List.mem_filter.2 ⟨hy, by simp [hd]⟩
          exact absurd (hall y hy') hd
      · simp [hf]
    rw [e] at this
    exact this
  · have he := run_entry (P := Tryz.prog) R2 hy
    have f2 : Fr (fun i => i = sm) w w2 := f1.by g2 (fun i hi => by cases hi; exact .inr (Nat.le_refl _))
    simp only [secV] at hn he
    repeat (any_goals (first
    | (with_reducible ((refine idCond ?_); refine yL ?_))
    | ((with_reducible refine idO ?_); (with_reducible refine oM_gen fun Kv hK=>?_); simp [go_sem, hn, he]; refine hK _ _ ?_; clear hK; clear Kv)))
    have pf : Fr (fun _ => False) w2 (w2.alloc (.cells #[.int .i64 y.1.1, .int .i64 y.1.2] 76 (0, 0))) := (Fr.refl _ _).alloc _
    have p0 := heap_alloc_new w2 (.cells #[.int .i64 y.1.1, .int .i64 y.1.2] 76 (0, 0))
    have pz := alloc_size w2 (.cells #[.int .i64 y.1.1, .int .i64 y.1.2] 76 (0, 0))
    generalize w2.alloc (.cells #[.int .i64 y.1.1, .int .i64 y.1.2] 76 (0, 0)) = w3 at *
    have hxl := (Array.getElem?_eq_some_iff.1 hx).1
    have hxs : x ≠ sm := fun e => by
      obtain ⟨es, c, hm⟩ := MapIs.isMap m
      rw [e, hm] at hx; cases hx
    have hx2 := (f2.block x hxl hxs).trans hx
    have hx3 := (pf.block x (Array.getElem?_eq_some_iff.1 hx2).1 (fun h => h)).trans hx2
    refine oM_callv2 isBody58 (test2_ok (f := f) y.1 y.2 hx3 (fun w4 f4 => ?_))
    have f24 := pf.trans f4 (fun _ h => h.elim)
    have R4 := R2.of_blocks (f24.block sm R2.lt.1 (fun h => h)) (f24.block w.heap.size R2.lt.2.1 (fun h => h))
    have p4 := (f4.block w2.heap.size (by omega) (fun h => h)).trans p0
    have p40 := cell_of_block p4 0
    have p41 := cell_of_block p4 1
    simp at p40 p41
    have fr4 : Fr (fun i => i = sm) w w4 := f2.trans f24 (fun _ h => h.elim)
    have hmem : y.1 ∈ (ls.filter (fun y => decide (¬ (y.1 ∈ done ∧ y.1.1 = f)))).map (·.1) := List.mem_map_of_mem hy
    have hlen4 := nodup_sub_len (y.1 :: done) _ (List.nodup_cons.2 ⟨hyd, hnd⟩) R4.sub
    simp only [List.length_cons] at hlen4
    obtain ⟨w5, hd, R5, g5, z5⟩ := run_deleteR (P := Tryz.prog) (t := 57) (et := 4) (ty := 0) keyS (by kernel_rfl) R4 y.1 hmem
    simp only [secV] at hd
    repeat (any_goals (first
    | (with_reducible ((refine idCond ?_); refine yP (fun hg=>?_) fun hg=>?_))
    | ((with_reducible refine idO ?_); (with_reducible refine oM_gen fun Kv hK=>?_); simp [go_sem, p40, p41, hd]; refine hK _ _ ?_; clear hK; clear Kv)))
    · have hf : y.1.1 = f := by assumption
      refine ⟨⟨_, y.1 :: done, rfl, List.nodup_cons.2 ⟨hyd, hnd⟩, ?_, fr4.by g5 (fun i hi => by cases hi; exact .inl rfl)⟩, ?_⟩
      · have e : delA (ls.filter (fun y => decide (¬ (y.1 ∈ done ∧ y.1.1 = f)))) y.1 = ls.filter (fun z => decide (¬ (z.1 ∈ y.1 :: done ∧ z.1.1 = f))) := by
          unfold delA
          rw [List.filter_filter]
          apply List.filter_congr
          intro z _
          by_cases hz : z.1 = y.1
          · simp [hz, hf]
          · simp [hz]
        rw [← e]; exact R5
      · have := R5.seen
        simp only [List.length_cons] at this
        show _ - _ < _ - _
        omega
    · have hf : ¬ y.1.1 = f := by assumption
      refine ⟨⟨_, y.1 :: done, rfl, List.nodup_cons.2 ⟨hyd, hnd⟩, ?_, fr4⟩, ?_⟩
      · have e : ls.filter (fun y => decide (¬ (y.1 ∈ done ∧ y.1.1 = f))) = ls.filter (fun z => decide (¬ (z.1 ∈ y.1 :: done ∧ z.1.1 = f))) := by
          apply List.filter_congr
          intro z _
          by_cases hz : z.1 = y.1
          · simp [hz, hf]
          · simp [hz]
        rw [← e]; exact R4
      · have := R4.seen
        simp only [List.length_cons] at this
        show _ - _ < _ - _
        omega
end
end Go.Proofs
namespace Go.Proofs
open Go Go.Sh Go.RowKit DkSpec
set_option linter.unusedSimpArgs false
set_option maxRecDepth 10000
attribute [local go_sem] oM_indexAddr
section
variable {w : World} {b : Nat} {A : Ab} {h : Dk} {K : Value → World → Prop}
@[go_sem] theorem oM_makeFuncC {P : Program} (fn : Fn) (T : TypeId) (x : Value) : oM P (.makeFunc fn #[] #[.tmp 0]) T [x] K w = K (.func fn #[] #[x]) w := oM_of_run (by simp [xop, execOp, evalL, evE, Instr.makeFunc])
theorem settle_ok (d : IsDk w b A h) (f : Int) (s : Bs) (hs : s.length ≤ 16777216) (k : ∀ w' h', IsDk w' b (settleA A f s) h' → Step w b h w' h' → K (.tuple #[]) w') : callM Tryz.prog 51 #[dkP b, .int .i64 f, bsV s] K w := by
  apply sh_51_ok
  unfold sh_51
  repeat (any_goals ((with_reducible refine idO ?_); (with_reducible refine oM_gen fun Kv hK=>?_); simp [go_sem]; refine hK _ _ ?_; clear hK; clear Kv))
  have pf : Fr (fun _ => False) w (w.alloc (.cells #[.int .i64 f] 3 (0, 0))) := (Fr.refl _ _).alloc _
  have p0 := heap_alloc_new w (.cells #[.int .i64 f] 3 (0, 0))
  have pz := alloc_size w (.cells #[.int .i64 f] 3 (0, 0))
  generalize w.alloc (.cells #[.int .i64 f] 3 (0, 0)) = w1 at *
  have d1 := d.fresh pf
  have c0 := d1.c 0
  simp only [dkCells] at c0
  have p00 := cell_of_block p0 0
  simp at p00
  refine ⟨fun sg w' => sg ≤ 1 → w'.heap = w1.heap, fun _ => rfl, ?_⟩
  repeat (first | (with_reducible refine pureH_in ?_) | (with_reducible refine oH_nil ?_) | (with_reducible refine gdH_true rfl ?_) | (with_reducible refine gdH_false rfl ?_) | (refine oH_of ⟨_, rfl⟩ (fun W0 hW0 => by (obtain ⟨s0, hs0, hC⟩ := hW0); (refine oM_gen (fun Kv hK => ?_)); simp [go_sem, cell_heap (hC (by omega)), c0, p00]; (first | exact hK _ _ ⟨rfl, rfl⟩ | exact ⟨by omega, hK _ _ ⟨rfl, rfl⟩⟩)) ?_))
  generalize hw2 : ({ w1 with drawn := w1.drawn + 1 } : World) = w2
  have hh : w2.heap = w1.heap := by rw [← hw2]
  have d2 := d1.heap hh
  have f2 : Fr (fun _ => False) w w2 := by rw [← hw2]; exact pf.drew
  have p2 : w2.heap[w.heap.size]? = some (.cells #[.int .i64 f] 3 (0, 0)) := by rw [hh]; exact p0
  rw [← hh] at pz
  clear hw2
  obtain ⟨w4, hr4, d4, t4⟩ := d2.setFile f (s, s) ⟨hs, hs⟩
  simp only at hr4
  repeat (any_goals (first
  | (with_reducible refine And.intro (fun _ => hh) ?_) | (with_reducible refine And.intro (fun hs => absurd hs (by decide)) ?_)
  | ((with_reducible refine idO ?_); (with_reducible refine oM_gen fun Kv hK=>?_); simp [go_sem, hr4]; refine hK _ _ ?_; clear hK; clear Kv)))
  have t04 : Step w b h w4 h := (Step.fresh f2).trans t4
  have blt : b < w.heap.size := d.lt (.inl (.inl rfl))
  have hnown : ∀ i, Own b h i → i < w.heap.size := fun i hi => d.lt (.inl hi)
  have p4 := (t4.fr.block w.heap.size (by omega) (fun ho => by have := hnown _ ho; omega)).trans p2
  have c1 := d4.c 1
  simp only [dkCells] at c1
  repeat (any_goals (first
  | (with_reducible refine delete_ok (f := f) (by have := d4.wf.ql; omega) p4 d4.que ?_)
  | ((with_reducible refine idO ?_); (with_reducible refine oM_gen fun Kv hK=>?_); simp [go_sem, c1]; refine hK _ _ ?_; clear hK; clear Kv)))
  intro v' w5 ho5 f5 hv5
  obtain ⟨va, vc, rfl⟩ := owns_len ho5
  have hq4 : ∀ i, h.q.ownBlock = some i → i < w.heap.size := fun i hi => hnown i (.inr (.inr (.inr hi)))
  have k5 : ∀ i, i < w4.heap.size → h.q.ownBlock ≠ some i → w5.heap[i]? = w4.heap[i]? := fun i hi hn => f5.block i hi (fun e => hn e)
  have hz4 := t4.fr.size
  have hz5 := f5.size
  have hqb : h.q.ownBlock ≠ some b := fun e => (d4.qne e).1 rfl
  have hqf : h.q.ownBlock ≠ some h.fm := fun e => (d4.qne e).2.1 rfl
  have hqs : h.q.ownBlock ≠ some h.sm := fun e => (d4.qne e).2.2 rfl
  have b5 := (k5 b (by omega) hqb).trans d4.blk
  have p5 := (k5 w.heap.size (by omega) (fun e => by have := hq4 _ e; omega)).trans p4
  have e1 := cell_of_block b5 1
  have y1 := frozen_of_block b5 1
  have b6 := block_set (i := 1) b5 (.slice va (keepQ f A.queue).length vc)
  have e2 := cell_of_block b6 2
  simp [dkCells] at e1 e2
  repeat (any_goals ((with_reducible refine idO ?_); (with_reducible refine oM_gen fun Kv hK=>?_); simp [go_sem, e1, y1, e2]; refine hK _ _ ?_; clear hK; clear Kv))
  have k6 : ∀ i, i ≠ b → (w5.setCell ⟨b, 1, none⟩ (.slice va (keepQ f A.queue).length vc)).heap[i]? = w5.heap[i]? := fun i hi => setCell_heap_ne _ _ _ _ hi
  have z6 := grown_setCell w5 ⟨b, 1, none⟩ (.slice va (keepQ f A.queue).length vc)
  have zz6 : (w5.setCell ⟨b, 1, none⟩ (.slice va (keepQ f A.queue).length vc)).heap.size = w5.heap.size := by simp [World.setCell]
  generalize w5.setCell ⟨b, 1, none⟩ (.slice va (keepQ f A.queue).length vc) = w6 at *
  have p6 := (k6 w.heap.size (by omega)).trans p5
  have hsm4 : h.sm < w.heap.size := hnown _ (.inr (.inr (.inl rfl)))
  have hfm4 : h.fm < w.heap.size := hnown _ (.inr (.inl rfl))
  obtain ⟨ls, ms, hls⟩ := d4.set
  have m6 : MapIs secV w6 h.sm ls := ms.of_block ((k6 _ d4.bsm.symm).trans (k5 _ (by omega) hqs))
  refine deleteMap_ok (f := f) p6 m6 (fun w7 m7 f7 => ?_)
  have k7 : ∀ i, i < w4.heap.size → i ≠ h.sm → w7.heap[i]? = w6.heap[i]? := fun i hi hn => f7.block i (by omega) hn
  have hvn : ∀ i, (Value.slice va (keepQ f A.queue).length vc).ownBlock = some i → i ≠ b ∧ i ≠ h.sm ∧ i < w.heap.size := fun i hi => ⟨(d4.qne (hv5 i hi)).1, (d4.qne (hv5 i hi)).2.2, hq4 i (hv5 i hi)⟩
  refine k w7 { h with q := .slice va (keepQ f A.queue).length vc } ⟨?_, ?_, ?_, ?_, ?_, d.ne, settleA_wf d.wf f s hs⟩ ⟨?_, ?_, fun i hi => .inl hi⟩
  · rw [k7 b (by omega) d4.bsm, b6]; rfl
  · obtain ⟨l, m, hl⟩ := d4.files
    exact ⟨l, m.of_block (by rw [k7 _ (by omega) d4.ne, k6 _ d4.bfm.symm, k5 _ (by omega) hqf]), hl⟩
  · refine ⟨_, m7, fun p => ?_⟩
    rw [lookA_filter (fun p : Int × Int => decide (p.1 ≠ f)), hls]
    show _ = if p ∈ A.queue.filter (fun p => decide (p.1 ≠ f)) then _ else _
    by_cases hp : p.1 = f
    · simp [hp]
    · simp [hp]
  · exact owns_keep ho5 (fun i hi => by
      have := hvn i hi
      rw [k7 i (by omega) this.2.1, k6 i this.1])
  · refine owns_keep d4.kep (fun i hi => ?_)
    have h1 := d4.kne hi
    have h2 := d4.lt (.inr hi)
    rw [k7 i h2 h1.2.2.1, k6 i h1.1, k5 i h2 h1.2.2.2]
  · have fA : Fr (Own b h) w w5 := t04.fr.trans f5 (fun i hi => .inl (.inr (.inr (.inr hi))))
    have fB : Fr (Own b h) w w6 := fA.by z6 (fun i hi => by cases hi; exact .inl (.inl rfl))
    exact fB.trans f7 (fun i hi => .inl (.inr (.inr (.inl hi))))
  · rintro i (rfl | rfl | rfl | hi)
    · exact .inl (.inl rfl)
    · exact .inl (.inr (.inl rfl))
    · exact .inl (.inr (.inr (.inl rfl)))
    · exact .inl (.inr (.inr (.inr (hv5 i hi))))
end
end Go.Proofs
namespace Go.Proofs
open Go Go.Sh Go.RowKit DkSpec
set_option linter.unusedSimpArgs false
set_option linter.unusedVariables false
set_option maxRecDepth 10000
attribute [local go_sem] oM_indexAddr
def crTail (a0 v5_20 v6_32 v39_31 x : Value) (M_16 : List Value → World → Prop) (w : World) : Prop :=
 (stageM w (fun C_52 w => (oH Tryz.prog (Go.Op.fieldAddr 78 (.tmp 0) 1) 0 [v6_32] (upto C_52 0) (fun v61_53 =>
 oH Tryz.prog (Go.Op.load 9 (.tmp 0)) 9 [v61_53] (upto C_52 0) (fun v62_54 =>
 pureH v39_31 (upto C_52 0) (fun v63_55 =>
 oH Tryz.prog (Go.Op.fieldAddr 78 (.tmp 0) 0) 0 [v6_32] (upto C_52 0) (fun v64_56 =>
 oH Tryz.prog (Go.Op.load 9 (.tmp 0)) 9 [v64_56] (upto C_52 0) (fun v65_57 =>
 pureH v39_31 (upto C_52 0) (fun v66_58 =>
 pureH v39_31 (upto C_52 0) (fun v67_59 =>
 oH Tryz.prog (Go.Op.binOp Go.BinOp.add 3 (.tmp 0) (.tmp 1) 3) 3 [v67_59, (.int .i64 64)] (upto C_52 0) (fun v68_60 =>
 oH Tryz.prog (Go.Op.fieldAddr 78 (.tmp 0) 0) 0 [v6_32] (upto C_52 0) (fun v69_61 =>
 oH Tryz.prog (Go.Op.load 9 (.tmp 0)) 9 [v69_61] (upto C_52 0) (fun v70_62 =>
 oH Tryz.prog (Go.Op.call (Go.Call.mk (Go.Callee.builtin Go.Builtin.len) #[(.tmp 0)] #[9])) 3 [v70_62] (upto C_52 0) (fun v71_63 =>
 oH Tryz.prog (Go.Op.call (Go.Call.mk (Go.Callee.builtin Go.Builtin.min) #[(.tmp 0), (.tmp 1)] #[3, 3])) 3 [v68_60, v71_63] (upto C_52 0) (fun v72_64 =>
 oH Tryz.prog (Go.Op.slice 9 (.tmp 0) (some (.tmp 1)) (some (.tmp 2)) none) 9 [v65_57, v66_58, v72_64] (upto C_52 0) (fun v73_65 =>
 callM Tryz.prog 44 #[v62_54, v63_55, v73_65] (fun v74_66 w => C_52 1 w ∧ (
 oM Tryz.prog (Go.Op.fieldAddr 78 (.tmp 0) 1) 0 [v6_32] (fun v75_67 w => C_52 2 w ∧ (
 oM Tryz.prog (Go.Op.store 9 (.tmp 0) (.tmp 1)) 0 [v75_67, v74_66] (fun _ w => C_52 3 w ∧ (
 stageM w (fun C_68 w => (pureH a0 (upto C_68 0) (fun v76_69 =>
 oH Tryz.prog (Go.Op.nilCheck (.tmp 0)) 0 [v76_69] (upto C_68 0) (fun v77_70 =>
 oH Tryz.prog (Go.Op.fieldAddr 60 (.tmp 0) 0) 0 [v77_70] (upto C_68 0) (fun v78_71 =>
 oH Tryz.prog (Go.Op.load 56 (.tmp 0)) 56 [v78_71] (upto C_68 0) (fun v79_72 =>
 oH Tryz.prog (Go.Op.fieldAddr 76 (.tmp 0) 0) 0 [v5_20] (upto C_68 0) (fun v80_73 =>
 oH Tryz.prog (Go.Op.load 3 (.tmp 0)) 3 [v80_73] (upto C_68 0) (fun v81_74 =>
 oH Tryz.prog (Go.Op.load 78 (.tmp 0)) 78 [v6_32] (upto C_68 0) (fun v82_75 =>
 oM Tryz.prog (Go.Op.mapUpdate 56 (.tmp 0) (.tmp 1) (.tmp 2)) 0 [v79_72, v81_74, v82_75] (fun _ w => C_68 1 w ∧ (
 M_16 [x, v39_31] w)) w))))))))))) w)) w)) w))))))))))))))))
def crEnd (a0 : Value) (K : Value → World → Prop) (w : World) : Prop :=
 (oM Tryz.prog (Go.Op.nilCheck (.tmp 0)) 0 [a0] (fun v85_77 w =>
 oM Tryz.prog (Go.Op.fieldAddr 60 (.tmp 0) 0) 0 [v85_77] (fun v86_78 w =>
 oM Tryz.prog (Go.Op.load 56 (.tmp 0)) 56 [v86_78] (fun v87_79 w =>
 oM Tryz.prog (Go.Op.range 56 (.tmp 0)) 0 [v87_79] (fun v88_80 w =>
 loopM [undef] w (fun J_81 m_82 l_83 u_l_83 w0_l_83 => (fun w => (
 oM Tryz.prog (Go.Op.next (.tmp 0) false) 0 [v88_80] (fun v89_84 w =>
 oM Tryz.prog (Go.Op.extract (.tmp 0) 0) 4 [v89_84] (fun v90_85 w =>
 condM v90_85
 (oM Tryz.prog (Go.Op.entry (.tmp 0)) 0 [v88_80] (fun v91_86 w =>
 oM Tryz.prog (Go.Op.extract (.tmp 0) 0) 3 [v91_86] (fun v92_87 w =>
 oM Tryz.prog (Go.Op.extract (.tmp 0) 1) 78 [v91_86] (fun v93_88 w =>
 oM Tryz.prog (Go.Op.alloc 78) 0 [] (fun v9_89 w =>
 oM Tryz.prog (Go.Op.store 78 (.tmp 0) (.tmp 1)) 0 [v9_89, v93_88] (fun _ w =>
 stageM w (fun C_90 w => (pureH a0 (upto C_90 1) (fun v94_91 =>
 oH Tryz.prog (Go.Op.nilCheck (.tmp 0)) 0 [v94_91] (upto C_90 1) (fun v95_92 =>
 oH Tryz.prog (Go.Op.fieldAddr 60 (.tmp 0) 0) 0 [v95_92] (upto C_90 1) (fun v96_93 =>
 oH Tryz.prog (Go.Op.load 56 (.tmp 0)) 56 [v96_93] (upto C_90 1) (fun v97_94 =>
 pureH v92_87 (upto C_90 1) (fun v98_95 =>
 oH Tryz.prog (Go.Op.fieldAddr 78 (.tmp 0) 1) 0 [v9_89] (upto C_90 0) (fun v99_96 =>
 oH Tryz.prog (Go.Op.load 9 (.tmp 0)) 9 [v99_96] (upto C_90 0) (fun v100_97 =>
 oH Tryz.prog (Go.Op.fieldAddr 78 (.tmp 0) 1) 0 [v9_89] (upto C_90 0) (fun v101_98 =>
 oH Tryz.prog (Go.Op.load 9 (.tmp 0)) 9 [v101_98] (upto C_90 0) (fun v102_99 =>
 oM Tryz.prog (Go.Op.build 78 #[(0, (.tmp 0)), (1, (.tmp 1))]) 78 [v100_97, v102_99] (fun v103_100 w => C_90 1 w ∧ (
 oM Tryz.prog (Go.Op.mapUpdate 56 (.tmp 0) (.tmp 1) (.tmp 2)) 0 [v97_94, v98_95, v103_100] (fun _ w => C_90 2 w ∧ (
 J_81 [v92_87] w ∧ m_82 [v92_87] w < m_82 l_83 w0_l_83)) w)) w)))))))))))) w) w) w) w) w)
 (oM Tryz.prog (Go.Op.makeMap 57 none) 57 [] (fun v106_101 w =>
 oM Tryz.prog (Go.Op.nilCheck (.tmp 0)) 0 [a0] (fun v107_102 w =>
 oM Tryz.prog (Go.Op.fieldAddr 60 (.tmp 0) 1) 0 [v107_102] (fun v108_103 w =>
 oM Tryz.prog (Go.Op.store 58 (.tmp 0) (.tmp 1)) 0 [v108_103, (.slice none 0 0)] (fun _ w =>
 oM Tryz.prog (Go.Op.nilCheck (.tmp 0)) 0 [a0] (fun v109_104 w =>
 oM Tryz.prog (Go.Op.fieldAddr 60 (.tmp 0) 2) 0 [v109_104] (fun v110_105 w =>
 oM Tryz.prog (Go.Op.store 57 (.tmp 0) (.tmp 1)) 0 [v110_105, v106_101] (fun _ w =>
 K (.tuple #[]) w) w) w) w) w) w) w) w)) w) w)) w0_l_83)) w) w) w) w)
section
variable {w : World} {b : Nat} {A : Ab} {h : Dk} {K : Value → World → Prop}
set_option maxHeartbeats 1000000 in
theorem crTail_ok {n m : Nat} {p : Int × Int} {x : Value} {M : List Value → World → Prop} (d : IsDk w b A h) (hp : w.heap[n]? = some (.cells #[.int .i64 p.1, .int .i64 p.2] 76 (0, 0))) {cur : Array Value} (hm : w.heap[m]? = some (.cells cur 78 (0, 0))) (hc0 : cur[0]? = some (bsV (A.F p.1).1)) (hc1 : cur[1]? = some (bsV (A.F p.1).2)) (hs : cur.size = 2)
    (hn : ¬ Own b h n) (hm' : ¬ Own b h m) (hm2 : ¬ Rdb h m) (hnm : n ≠ m) (h0 : 0 ≤ p.2 ∧ p.2 < 262144) (hbig : 64 * p.2 < ((A.F p.1).1.length : Int))
    (k : ∀ w', IsDk w' b { A with F := setF A.F p.1 ((A.F p.1).1, putB (A.F p.1).2 (64 * p.2).toNat (DkSpec.sector (A.F p.1).1 p.2)) } h → Fr (fun i => Own b h i ∨ i = m) w w' → M [x, .int .i64 (64 * p.2)] w') : crTail (dkP b) (.pointer (some ⟨n, 0, none⟩)) (.pointer (some ⟨m, 0, none⟩)) (.int .i64 (64 * p.2)) x M w := by
  unfold crTail
  have z0 := cell_of_block hm 0
  have z1 := cell_of_block hm 1
  have hsz := d.wf.sz p.1
  obtain ⟨now, hnow⟩ : ∃ now, now = (A.F p.1).1 := ⟨_, rfl⟩
  obtain ⟨last, hlast⟩ : ∃ last, last = (A.F p.1).2 := ⟨_, rfl⟩
  rw [← hnow, ← hlast] at hsz
  rw [← hnow] at hc0 hbig
  rw [← hlast] at hc1
  rw [hc0] at z0
  rw [hc1] at z1
  obtain ⟨a, ha⟩ : ∃ a : Nat, (a : Int) = 64 * p.2 := ⟨(64 * p.2).toNat, by omega⟩
  have hmin : min ((a : Int) + 64) (now.length : Int) = ((min (a + 64) now.length : Nat) : Int) := by omega
  rw [← ha] at hbig ⊢
  refine ⟨fun sg w' => sg ≤ 0 → w'.heap = w.heap, fun _ => rfl, ?_⟩
  have hwr : IntKind.i64.wrap ((a : Int) + 64) = (a : Int) + 64 := wrapI64 _ (by omega) (by omega)
  repeat (first | (with_reducible refine pureH_in ?_) | (with_reducible refine oH_nil ?_) | (with_reducible refine gdH_true rfl ?_) | (with_reducible refine gdH_false rfl ?_) | (refine oH_of ⟨_, rfl⟩ (fun W0 hW0 => by (obtain ⟨s0, hs0, hC⟩ := hW0); (refine oM_gen (fun Kv hK => ?_)); simp [go_sem, cell_heap (hC (by omega)), z0, z1, hwr, hmin, ba_ext]; (first | exact hK _ _ ⟨rfl, rfl⟩ | exact ⟨by omega, hK _ _ ⟨rfl, rfl⟩⟩)) ?_))
  have hsec : (now.drop a).take (min (a + 64) now.length - a) = DkSpec.sector now p.2 := by
    unfold DkSpec.sector
    rw [← ha, Int.toNat_natCast, List.take_eq_take_iff, List.length_drop]
    omega
  simp only [bsV, Int.toNat_natCast]
  rw [hsec]
  generalize hw2 : ({ w with drawn := w.drawn + 1 } : World) = w2
  have hh : w2.heap = w.heap := by rw [← hw2]
  have f2 : Fr (fun _ => False) w w2 := by rw [← hw2]; exact (Fr.refl _ _).drew
  clear hw2
  have hsl : (DkSpec.sector now p.2).length ≤ 64 := by unfold DkSpec.sector; simp; omega
  refine put_ok' last (DkSpec.sector now p.2) (a : Int) (by omega) (by have := hsl; unfold DkSpec.sector at *; simp at *; omega) hsz.2 (fun w3 f3 => ⟨fun hs => absurd hs (by decide), ?_⟩)
  have f03 := f2.trans f3 (fun _ h => h.elim)
  have d3 := d.fresh f03
  have hml := (Array.getElem?_eq_some_iff.1 hm).1
  have hpl := (Array.getElem?_eq_some_iff.1 hp).1
  have hm3 := (f03.block m hml (fun h => h)).trans hm
  have hp3 := (f03.block n hpl (fun h => h)).trans hp
  have y1 := frozen_of_block hm3 1
  have q1 := cell_of_block hm3 1
  rw [hc1] at q1
  have hm4 := block_set (i := 1) hm3 (bsV (putB last a (DkSpec.sector now p.2)))
  have hp4 := (setCell_heap_ne w3 ⟨m, 1, none⟩ (bsV (putB last a (DkSpec.sector now p.2))) n hnm).trans hp3
  have d4 : IsDk (w3.setCell ⟨m, 1, none⟩ (bsV (putB last a (DkSpec.sector now p.2)))) b A h := d3.keep (fun i hi => setCell_heap_ne _ _ _ _ (fun e => by subst e; exact hi.elim hm' hm2))
  rw [Int.toNat_natCast]
  repeat (any_goals (first
  | (with_reducible refine And.intro (fun hs => absurd hs (by decide)) ?_)
  | ((with_reducible refine idO ?_); (with_reducible refine oM_gen fun Kv hK=>?_); simp [go_sem, y1, q1]; refine hK _ _ ?_; clear hK; clear Kv)))
  have f04 : Fr (fun i => Own b h i ∨ i = m) w (w3.setCell ⟨m, 1, none⟩ (bsV (putB last a (DkSpec.sector now p.2)))) := (f03.mono (fun i _ hi => hi.elim)).set ⟨m, 1, none⟩ _ (.inl (.inr rfl))
  generalize w3.setCell ⟨m, 1, none⟩ (bsV (putB last a (DkSpec.sector now p.2))) = w4 at *
  have c0 := d4.c 0
  simp only [dkCells] at c0
  have e0 := cell_of_block hm4 0
  have e1 := cell_of_block hm4 1
  have g0 := cell_of_block hp4 0
  simp at g0
  have h1lt : 1 < cur.size := by omega
  rw [Array.getElem?_setIfInBounds_ne (by omega), hc0] at e0
  rw [Array.getElem?_setIfInBounds_self_of_lt h1lt] at e1
  refine ⟨fun sg w' => sg ≤ 0 → w'.heap = w4.heap, fun _ => rfl, ?_⟩
  repeat (first | (with_reducible refine pureH_in ?_) | (with_reducible refine oH_nil ?_) | (with_reducible refine gdH_true rfl ?_) | (with_reducible refine gdH_false rfl ?_) | (refine oH_of ⟨_, rfl⟩ (fun W0 hW0 => by (obtain ⟨s0, hs0, hC⟩ := hW0); (refine oM_gen (fun Kv hK => ?_)); simp [go_sem, cell_heap (hC (by omega)), c0, e0, e1, g0]; (first | exact hK _ _ ⟨rfl, rfl⟩ | exact ⟨by omega, hK _ _ ⟨rfl, rfl⟩⟩)) ?_))
  generalize hw5 : ({ w4 with drawn := w4.drawn + 1 } : World) = w5
  have d5 : IsDk w5 b A h := d4.heap (by rw [← hw5])
  have f05 : Fr (fun i => Own b h i ∨ i = m) w w5 := by rw [← hw5]; exact f04.drew
  clear hw5
  have hpl2 := putB_length last a (DkSpec.sector now p.2)
  obtain ⟨w6, hr6, d6, t6⟩ := d5.setFile p.1 (now, putB last a (DkSpec.sector now p.2)) ⟨hsz.1, by
    show (putB last a (DkSpec.sector now p.2)).length ≤ _
    rw [hpl2]
    split
    · exact hsz.2
    · have hs2 : (DkSpec.sector now p.2).length ≤ now.length - a := by rw [← hsec]; simp; omega
      omega⟩
  simp only at hr6
  repeat (any_goals (first
  | (with_reducible refine And.intro (fun hs => absurd hs (by decide)) ?_)
  | ((with_reducible refine idO ?_); (with_reducible refine oM_gen fun Kv hK=>?_); simp [go_sem, hr6]; refine hK _ _ ?_; clear hK; clear Kv)))
  rw [← hnow, ← hlast, ← ha, Int.toNat_natCast] at k
  exact k w6 d6 (f05.trans t6.fr (fun i hi => .inl (.inl hi)))
def durL (F : Int → Bs × Bs) (l : List (Int × Value)) (done : List Int) : List (Int × Value) := l.map (fun y => (y.1, if y.1 ∈ done then flV ((F y.1).2, (F y.1).2) else y.2))
theorem durL_nil (F : Int → Bs × Bs) (l : List (Int × Value)) : durL F l [] = l := by
  unfold durL
  have : (fun y : Int × Value => (y.1, if y.1 ∈ ([] : List Int) then flV ((F y.1).2, (F y.1).2) else y.2)) = id := by funext y; simp
  rw [this, List.map_id]
theorem durL_keys (F : Int → Bs × Bs) (l : List (Int × Value)) (done : List Int) : (durL F l done).map (·.1) = l.map (·.1) := by
  unfold durL; rw [List.map_map]; rfl
theorem durL_put (F : Int → Bs × Bs) (l : List (Int × Value)) (done : List Int) (k : Int) (hk : k ∈ l.map (·.1)) : putA (durL F l done) k (flV ((F k).2, (F k).2)) = durL F l (k :: done) := by
  unfold putA
  rw [if_pos ((lookA_isSome _ _).2 (by rw [durL_keys]; exact hk))]
  unfold durL
  rw [List.map_map]
  apply List.map_congr_left
  intro y _
  simp only [Function.comp]
  by_cases hy : y.1 = k
  · simp [hy]
  · simp [hy]
theorem durL_look (F : Int → Bs × Bs) (l : List (Int × Value)) (done : List Int) (k : Int) : lookA (durL F l done) k = (lookA l k).map (fun v => if k ∈ done then flV ((F k).2, (F k).2) else v) := by
  unfold durL
  exact lookA_mapVal (fun k v => if k ∈ done then flV ((F k).2, (F k).2) else v) l k
theorem flV_inj {x y : Bs × Bs} (h : flV x = flV y) : x = y := by
  obtain ⟨a, b⟩ := x
  obtain ⟨c, d⟩ := y
  simp [flV, bsV] at h
  simp [h.1, h.2]
theorem crEnd_ok (d : IsDk w b A h) (k : ∀ w' h', IsDk w' b { A with F := fun f => ((A.F f).2, (A.F f).2), queue := [] } h' → Step w b h w' h' → K (.tuple #[]) w') : crEnd (dkP b) K w := by
  unfold crEnd
  have c0 := d.c 0
  simp only [dkCells] at c0
  obtain ⟨l0, m0, hl0⟩ := d.files
  have hnd0 : (l0.map (·.1)).Nodup := by obtain ⟨es, c, h1, h2, h3, _⟩ := m0; exact h3
  obtain ⟨o, hr, R⟩ := run_range (P := Tryz.prog) (t := 56) (kt := 3) (et := 78) (by kernel_rfl) m0
  have f0 : Fr (fun i => i = h.fm) w (w.alloc o) := (Fr.refl _ _).alloc _
  repeat (any_goals ((with_reducible refine idO ?_); (with_reducible refine oM_gen fun Kv hK=>?_); simp [go_sem, c0, hr]; refine hK _ _ ?_; clear hK; clear Kv))
  generalize w.alloc o = w0 at *
  have hfm : h.fm < w.heap.size := m0.lt
  have hbl : b < w.heap.size := d.lt (.inl (.inl rfl))
  refine ⟨fun l w' => ∃ u done, l = [u] ∧ done.Nodup ∧ Ranged i64V w' w.heap.size h.fm (durL A.F l0 done) (l0.map (·.1)) done ∧ Fr (fun i => i = h.fm) w w', fun _ w' => (l0.map (·.1)).length + 1 - (w'.iterSeen w.heap.size).size, ⟨_, [], rfl, List.nodup_nil, by rw [durL_nil]; exact R, f0⟩, ?_⟩
  rintro l u w1 ⟨u1, done, rfl, hnd, R1, f1⟩
  have hlen := nodup_sub_len done _ hnd R1.sub
  have hseen := R1.seen
  rcases run_next (P := Tryz.prog) (ty := 0) R1 with ⟨hall, hn⟩ | ⟨y, hy, hyd, w2, hn, R2, g2, z2⟩
  · have m1 := R1.map
    have hF : ∀ f, (lookA (durL A.F l0 done) f).getD (flV ([], [])) = flV ((A.F f).2, (A.F f).2) := by
      intro f
      rw [durL_look]
      have h2 := hl0 f
      cases hlk : lookA l0 f with
      | none =>
        rw [hlk] at h2
        have := flV_inj h2
        simp only [Option.map_none, Option.getD_none]
        rw [← this]
      | some v =>
        have hfk : f ∈ l0.map (·.1) := (lookA_isSome _ _).1 (by rw [hlk]; rfl)
        rw [← durL_keys A.F l0 done] at hfk
        obtain ⟨y, hy, rfl⟩ := List.mem_map.1 hfk
        simp only [Option.map_some, Option.getD_some, if_pos (hall y hy)]
    have b1 := (f1.block b hbl d.bfm).trans d.blk
    repeat (any_goals (first
    | (with_reducible ((refine idCond ?_); refine yM ?_))
    | ((with_reducible refine idO ?_); (with_reducible refine oM_gen fun Kv hK=>?_); simp [go_sem, hn]; refine hK _ _ ?_; clear hK; clear Kv)))
    have pf : Fr (fun _ => False) w1 (w1.alloc (.map #[] 0)) := (Fr.refl _ _).alloc _
    have pm : MapIs secV (w1.alloc (.map #[] 0)) w1.heap.size [] := mapIs_new w1
    have pz := alloc_size w1 (.map #[] 0)
    have hz1 := f1.size
    have hb2 := (pf.block b (by omega) (fun h => h)).trans b1
    have m2 := m1.alloc (.map #[] 0)
    have f2 := f1.trans pf (fun _ h => h.elim)
    generalize w1.alloc (.map #[] 0) = w2 at *
    have y1 := frozen_of_block hb2 1
    have e1 := cell_of_block hb2 1
    have hb3 := block_set (i := 1) hb2 (.slice none 0 0)
    have y2 := frozen_of_block hb3 2
    have e2 := cell_of_block hb3 2
    have hb4 := block_set (i := 2) hb3 (.map (some w1.heap.size))
    simp [dkCells] at e1 e2
    repeat (any_goals ((with_reducible refine idO ?_); (with_reducible refine oM_gen fun Kv hK=>?_); simp [go_sem, y1, e1, y2, e2]; refine hK _ _ ?_; clear hK; clear Kv))
    have f4 := (f2.mono (S' := Own b h) (fun i _ hi => .inr (.inl hi))).set ⟨b, 1, none⟩ (.slice none 0 0) (.inl (.inl rfl)) |>.set ⟨b, 2, none⟩ (.map (some w1.heap.size)) (.inl (.inl rfl))
    have k4 : ∀ i, i ≠ b → ((w2.setCell ⟨b, 1, none⟩ (.slice none 0 0)).setCell ⟨b, 2, none⟩ (.map (some w1.heap.size))).heap[i]? = w2.heap[i]? := fun i hi => by rw [setCell_heap_ne _ _ _ _ hi, setCell_heap_ne _ _ _ _ hi]
    generalize (w2.setCell ⟨b, 1, none⟩ (.slice none 0 0)).setCell ⟨b, 2, none⟩ (.map (some w1.heap.size)) = w4 at *
    have hfne : h.fm ≠ w1.heap.size := by omega
    refine k w4 { h with q := .slice none 0 0, sm := w1.heap.size } ⟨?_, ⟨_, m2.of_block (k4 _ d.bfm.symm), hF⟩, ⟨[], pm.of_block (k4 _ (by omega)), fun p => by simp [lookA_nil]⟩, ?_, ?_, hfne, ?_⟩ ⟨f4, ?_, fun i hi => .inl hi⟩
    · rw [hb4]; rfl
    · exact World.ownsRow_nil _ _ _ _
    · refine owns_keep d.kep (fun i hi => ?_)
      have h1 := d.kne hi
      have h2 := d.lt (.inr hi)
      rw [k4 i h1.1]
      exact f2.block i h2 h1.2.1
    · exact ⟨d.wf.l0, d.wf.l1, d.wf.a0, d.wf.a1, List.nodup_nil, fun p hp => absurd hp (by simp), fun f => ⟨(d.wf.sz f).2, (d.wf.sz f).2⟩, d.wf.kr, d.wf.kl⟩
    · rintro i (rfl | rfl | rfl | hi)
      · exact .inl (.inl rfl)
      · exact .inl (.inr (.inl rfl))
      · exact .inr hz1
      · cases hi
  · have he := run_entry (P := Tryz.prog) R2 hy
    have f2 : Fr (fun i => i = h.fm) w w2 := f1.by g2 (fun i hi => by cases hi; exact .inr (Nat.le_refl _))
    have hyk : y.1 ∈ l0.map (·.1) := by
      have := List.mem_map_of_mem (f := (·.1)) hy
      rw [durL_keys] at this
      exact this
    have hyv : y.2 = flV (A.F y.1) := by
      have h1 := lookA_mem (durL A.F l0 done) (by rw [durL_keys]; exact hnd0) y hy
      rw [durL_look] at h1
      have h2 := hl0 y.1
      cases hlk : lookA l0 y.1 with
      | none => rw [hlk] at h1; cases h1
      | some v =>
        rw [hlk] at h1 h2
        simp only [Option.map_some, if_neg hyd, Option.some.injEq] at h1
        simp only [Option.getD_some] at h2
        rw [← h1, h2]
    rw [hyv] at he
    simp only [i64V] at hn he
    repeat (any_goals (first
    | (with_reducible ((refine idCond ?_); refine yL ?_))
    | ((with_reducible refine idO ?_); (with_reducible refine oM_gen fun Kv hK=>?_); simp [go_sem, hn, he]; refine hK _ _ ?_; clear hK; clear Kv)))
    have pf : Fr (fun _ => False) w2 (w2.alloc (.cells #[.string ⟨#[]⟩, .string ⟨#[]⟩] 78 (0, 0))) := (Fr.refl _ _).alloc _
    have p0 := heap_alloc_new w2 (.cells #[.string ⟨#[]⟩, .string ⟨#[]⟩] 78 (0, 0))
    have pz := alloc_size w2 (.cells #[.string ⟨#[]⟩, .string ⟨#[]⟩] 78 (0, 0))
    generalize w2.alloc (.cells #[.string ⟨#[]⟩, .string ⟨#[]⟩] 78 (0, 0)) = w3 at *
    refine store2_at (fun w => by kernel_rfl) rfl rfl p0 (by simp) (fun w4 cur4 g4 n4 s4 _ a4 b4 => ?_)
    have f24 : Fr (fun _ => False) w2 w4 := pf.by g4 (fun i hi => by cases hi; exact .inr (Nat.le_refl _))
    have R4 := R2.of_blocks (f24.block h.fm R2.lt.1 (fun h => h)) (f24.block w.heap.size R2.lt.2.1 (fun h => h))
    have fr4 : Fr (fun i => i = h.fm) w w4 := f2.trans f24 (fun _ h => h.elim)
    have b4' : w4.heap[b]? = some (.cells (dkCells A h) 60 (0, 0)) := (fr4.block b hbl d.bfm).trans d.blk
    have e0 := cell_of_block b4' 0
    simp only [dkCells] at e0
    have z0 := cell_of_block n4 1
    rw [Nat.zero_add] at b4
    rw [b4] at z0
    refine ⟨fun sg w' => sg ≤ 1 → w'.heap = w4.heap, fun _ => rfl, ?_⟩
    repeat (first | (with_reducible refine pureH_in ?_) | (with_reducible refine oH_nil ?_) | (with_reducible refine gdH_true rfl ?_) | (with_reducible refine gdH_false rfl ?_) | (refine oH_of ⟨_, rfl⟩ (fun W0 hW0 => by (obtain ⟨s0, hs0, hC⟩ := hW0); (refine oM_gen (fun Kv hK => ?_)); simp [go_sem, cell_heap (hC (by omega)), e0, z0]; (first | exact hK _ _ ⟨rfl, rfl⟩ | exact ⟨by omega, hK _ _ ⟨rfl, rfl⟩⟩)) ?_))
    generalize hw5 : ({ w4 with drawn := w4.drawn + 1 } : World) = w5
    have hh5 : w5.heap = w4.heap := by rw [← hw5]
    have f5 : Fr (fun i => i = h.fm) w w5 := by rw [← hw5]; exact fr4.drew
    have R5 := R4.of_blocks (w' := w5) (by rw [hh5]) (by rw [hh5])
    clear hw5
    obtain ⟨w6, hu, R6, g6, z6⟩ := run_updateR (P := Tryz.prog) (t := 56) (et := 78) keyI (by kernel_rfl) R5 y.1 (flV ((A.F y.1).2, (A.F y.1).2)) (by rw [durL_keys]; exact hyk)
    rw [durL_put _ _ _ _ hyk] at R6
    simp only [i64V, flV, bsV] at hu
    repeat (any_goals (first
    | (with_reducible refine And.intro (fun _ => hh5) ?_) | (with_reducible refine And.intro (fun hs => absurd hs (by decide)) ?_)
    | ((with_reducible refine idO ?_); (with_reducible refine oM_gen fun Kv hK=>?_); simp [go_sem, hu]; refine hK _ _ ?_; clear hK; clear Kv)))
    refine ⟨⟨_, y.1 :: done, rfl, List.nodup_cons.2 ⟨hyd, hnd⟩, R6, f5.by g6 (fun i hi => by cases hi; exact .inl rfl)⟩, ?_⟩
    have h6 := R6.seen
    have h7 := nodup_sub_len (y.1 :: done) _ (List.nodup_cons.2 ⟨hyd, hnd⟩) R6.sub
    simp only [List.length_cons] at h6 h7
    show _ - _ < _ - _
    omega
end
end Go.Proofs
namespace Go.Proofs
open Go Go.Sh Go.RowKit DkSpec
set_option linter.unusedSimpArgs false
set_option linter.unusedVariables false
set_option maxRecDepth 10000
attribute [local go_sem] oM_indexAddr
def crMid (a0 a1 v5_20 v6_32 v39_31 x : Value) (M_16 : List Value → World → Prop) (w : World) : Prop :=
 (oM Tryz.prog (Go.Op.call (Go.Call.mk (Go.Callee.builtin Go.Builtin.len) #[(.tmp 0)] #[36])) 3 [a1] (fun v41_34 w =>
 oM Tryz.prog (Go.Op.binOp Go.BinOp.eql 3 (.tmp 0) (.const (.int .i64 0)) 3) 4 [v41_34] (fun v42_35 w =>
 gdM (gd v42_35 false) (pureM a1) (fun v44_36 w =>
 gdM (gd v42_35 false) (pureM x) (fun v45_37 w =>
 gdM (gd v42_35 false) (pureM a1) (fun v46_38 w =>
 gdM (gd v42_35 false) (oM Tryz.prog (Go.Op.call (Go.Call.mk (Go.Callee.builtin Go.Builtin.len) #[(.tmp 0)] #[36])) 3 [v46_38]) (fun v47_39 w =>
 gdM (gd v42_35 false) (oM Tryz.prog (Go.Op.binOp Go.BinOp.rem 3 (.tmp 0) (.tmp 1) 3) 3 [v45_37, v47_39]) (fun v48_40 w =>
 gdM (gd v42_35 false) (oM Tryz.prog (Go.Op.indexAddr 36 (.tmp 0) (.tmp 1)) 0 [v44_36, v48_40]) (fun v49_41 w =>
 gdM (gd v42_35 false) (oM Tryz.prog (Go.Op.load 3 (.tmp 0)) 3 [v49_41]) (fun v50_42 w =>
 gdM (gd v42_35 false) (oM Tryz.prog (Go.Op.binOp Go.BinOp.and 3 (.tmp 0) (.tmp 1) 3) 3 [v50_42, (.int .i64 1)]) (fun v51_43 w =>
 gdM (gd v42_35 false) (oM Tryz.prog (Go.Op.binOp Go.BinOp.eql 3 (.tmp 0) (.const (.int .i64 0)) 3) 4 [v51_43]) (fun v52_44 w =>
 oM Tryz.prog (Go.Op.pick (.tmp 0) (.tmp 1) (.tmp 2)) 4 [v42_35, (.bool true), v52_44] (fun v53_45 w =>
 gdM (gd v53_45 false) (pureM v39_31) (fun v55_46 w =>
 gdM (gd v53_45 false) (oM Tryz.prog (Go.Op.fieldAddr 78 (.tmp 0) 0) 0 [v6_32]) (fun v56_47 w =>
 gdM (gd v53_45 false) (oM Tryz.prog (Go.Op.load 9 (.tmp 0)) 9 [v56_47]) (fun v57_48 w =>
 gdM (gd v53_45 false) (oM Tryz.prog (Go.Op.call (Go.Call.mk (Go.Callee.builtin Go.Builtin.len) #[(.tmp 0)] #[9])) 3 [v57_48]) (fun v58_49 w =>
 gdM (gd v53_45 false) (oM Tryz.prog (Go.Op.binOp Go.BinOp.geq 3 (.tmp 0) (.tmp 1) 3) 4 [v55_46, v58_49]) (fun v59_50 w =>
 oM Tryz.prog (Go.Op.pick (.tmp 0) (.tmp 1) (.tmp 2)) 4 [v53_45, (.bool true), v59_50] (fun v60_51 w =>
 condM v60_51
 (M_16 [x, v39_31] w)
 (stageM w (fun C_52 w => (oH Tryz.prog (Go.Op.fieldAddr 78 (.tmp 0) 1) 0 [v6_32] (upto C_52 0) (fun v61_53 =>
 oH Tryz.prog (Go.Op.load 9 (.tmp 0)) 9 [v61_53] (upto C_52 0) (fun v62_54 =>
 pureH v39_31 (upto C_52 0) (fun v63_55 =>
 oH Tryz.prog (Go.Op.fieldAddr 78 (.tmp 0) 0) 0 [v6_32] (upto C_52 0) (fun v64_56 =>
 oH Tryz.prog (Go.Op.load 9 (.tmp 0)) 9 [v64_56] (upto C_52 0) (fun v65_57 =>
 pureH v39_31 (upto C_52 0) (fun v66_58 =>
 pureH v39_31 (upto C_52 0) (fun v67_59 =>
 oH Tryz.prog (Go.Op.binOp Go.BinOp.add 3 (.tmp 0) (.tmp 1) 3) 3 [v67_59, (.int .i64 64)] (upto C_52 0) (fun v68_60 =>
 oH Tryz.prog (Go.Op.fieldAddr 78 (.tmp 0) 0) 0 [v6_32] (upto C_52 0) (fun v69_61 =>
 oH Tryz.prog (Go.Op.load 9 (.tmp 0)) 9 [v69_61] (upto C_52 0) (fun v70_62 =>
 oH Tryz.prog (Go.Op.call (Go.Call.mk (Go.Callee.builtin Go.Builtin.len) #[(.tmp 0)] #[9])) 3 [v70_62] (upto C_52 0) (fun v71_63 =>
 oH Tryz.prog (Go.Op.call (Go.Call.mk (Go.Callee.builtin Go.Builtin.min) #[(.tmp 0), (.tmp 1)] #[3, 3])) 3 [v68_60, v71_63] (upto C_52 0) (fun v72_64 =>
 oH Tryz.prog (Go.Op.slice 9 (.tmp 0) (some (.tmp 1)) (some (.tmp 2)) none) 9 [v65_57, v66_58, v72_64] (upto C_52 0) (fun v73_65 =>
 callM Tryz.prog 44 #[v62_54, v63_55, v73_65] (fun v74_66 w => C_52 1 w ∧ (
 oM Tryz.prog (Go.Op.fieldAddr 78 (.tmp 0) 1) 0 [v6_32] (fun v75_67 w => C_52 2 w ∧ (
 oM Tryz.prog (Go.Op.store 9 (.tmp 0) (.tmp 1)) 0 [v75_67, v74_66] (fun _ w => C_52 3 w ∧ (
 stageM w (fun C_68 w => (pureH a0 (upto C_68 0) (fun v76_69 =>
 oH Tryz.prog (Go.Op.nilCheck (.tmp 0)) 0 [v76_69] (upto C_68 0) (fun v77_70 =>
 oH Tryz.prog (Go.Op.fieldAddr 60 (.tmp 0) 0) 0 [v77_70] (upto C_68 0) (fun v78_71 =>
 oH Tryz.prog (Go.Op.load 56 (.tmp 0)) 56 [v78_71] (upto C_68 0) (fun v79_72 =>
 oH Tryz.prog (Go.Op.fieldAddr 76 (.tmp 0) 0) 0 [v5_20] (upto C_68 0) (fun v80_73 =>
 oH Tryz.prog (Go.Op.load 3 (.tmp 0)) 3 [v80_73] (upto C_68 0) (fun v81_74 =>
 oH Tryz.prog (Go.Op.load 78 (.tmp 0)) 78 [v6_32] (upto C_68 0) (fun v82_75 =>
 oM Tryz.prog (Go.Op.mapUpdate 56 (.tmp 0) (.tmp 1) (.tmp 2)) 0 [v79_72, v81_74, v82_75] (fun _ w => C_68 1 w ∧ (
 M_16 [x, v39_31] w)) w))))))))))) w)) w)) w))))))))))))))))) w) w) w) w) w) w) w) w) w) w) w) w) w) w) w) w) w) w)
def crBody (a0 a1 v23_10 x : Value) (M_16 : List Value → World → Prop) (w : World) : Prop :=
 (oM Tryz.prog (Go.Op.indexAddr 58 (.tmp 0) (.tmp 1)) 0 [v23_10, x] (fun v28_18 w =>
 oM Tryz.prog (Go.Op.load 76 (.tmp 0)) 76 [v28_18] (fun v29_19 w =>
 oM Tryz.prog (Go.Op.alloc 76) 0 [] (fun v5_20 w =>
 oM Tryz.prog (Go.Op.store 76 (.tmp 0) (.tmp 1)) 0 [v5_20, v29_19] (fun _ w =>
 stageM w (fun C_21 w => (pureH a0 (upto C_21 1) (fun v30_22 =>
 oH Tryz.prog (Go.Op.nilCheck (.tmp 0)) 0 [v30_22] (upto C_21 1) (fun v31_23 =>
 oH Tryz.prog (Go.Op.fieldAddr 60 (.tmp 0) 0) 0 [v31_23] (upto C_21 1) (fun v32_24 =>
 oH Tryz.prog (Go.Op.load 56 (.tmp 0)) 56 [v32_24] (upto C_21 1) (fun v33_25 =>
 oH Tryz.prog (Go.Op.fieldAddr 76 (.tmp 0) 0) 0 [v5_20] (upto C_21 1) (fun v34_26 =>
 oH Tryz.prog (Go.Op.load 3 (.tmp 0)) 3 [v34_26] (upto C_21 1) (fun v35_27 =>
 oH Tryz.prog (Go.Op.lookup 56 (.tmp 0) (.tmp 1) false) 78 [v33_25, v35_27] (upto C_21 1) (fun v36_28 =>
 oH Tryz.prog (Go.Op.fieldAddr 76 (.tmp 0) 1) 0 [v5_20] (upto C_21 2) (fun v37_29 =>
 oH Tryz.prog (Go.Op.load 3 (.tmp 0)) 3 [v37_29] (upto C_21 2) (fun v38_30 =>
 oH Tryz.prog (Go.Op.binOp Go.BinOp.mul 3 (.tmp 0) (.tmp 1) 3) 3 [v38_30, (.int .i64 64)] (upto C_21 2) (fun v39_31 =>
 oM Tryz.prog (Go.Op.alloc 78) 0 [] (fun v6_32 w => C_21 1 w ∧ (
 oM Tryz.prog (Go.Op.store 78 (.tmp 0) (.tmp 1)) 0 [v6_32, v36_28] (fun _ w => C_21 2 w ∧ (
 C_21 3 w ∧ (oM Tryz.prog (Go.Op.call (Go.Call.mk (Go.Callee.builtin Go.Builtin.len) #[(.tmp 0)] #[36])) 3 [a1] (fun v41_34 w =>
 oM Tryz.prog (Go.Op.binOp Go.BinOp.eql 3 (.tmp 0) (.const (.int .i64 0)) 3) 4 [v41_34] (fun v42_35 w =>
 gdM (gd v42_35 false) (pureM a1) (fun v44_36 w =>
 gdM (gd v42_35 false) (pureM x) (fun v45_37 w =>
 gdM (gd v42_35 false) (pureM a1) (fun v46_38 w =>
 gdM (gd v42_35 false) (oM Tryz.prog (Go.Op.call (Go.Call.mk (Go.Callee.builtin Go.Builtin.len) #[(.tmp 0)] #[36])) 3 [v46_38]) (fun v47_39 w =>
 gdM (gd v42_35 false) (oM Tryz.prog (Go.Op.binOp Go.BinOp.rem 3 (.tmp 0) (.tmp 1) 3) 3 [v45_37, v47_39]) (fun v48_40 w =>
 gdM (gd v42_35 false) (oM Tryz.prog (Go.Op.indexAddr 36 (.tmp 0) (.tmp 1)) 0 [v44_36, v48_40]) (fun v49_41 w =>
 gdM (gd v42_35 false) (oM Tryz.prog (Go.Op.load 3 (.tmp 0)) 3 [v49_41]) (fun v50_42 w =>
 gdM (gd v42_35 false) (oM Tryz.prog (Go.Op.binOp Go.BinOp.and 3 (.tmp 0) (.tmp 1) 3) 3 [v50_42, (.int .i64 1)]) (fun v51_43 w =>
 gdM (gd v42_35 false) (oM Tryz.prog (Go.Op.binOp Go.BinOp.eql 3 (.tmp 0) (.const (.int .i64 0)) 3) 4 [v51_43]) (fun v52_44 w =>
 oM Tryz.prog (Go.Op.pick (.tmp 0) (.tmp 1) (.tmp 2)) 4 [v42_35, (.bool true), v52_44] (fun v53_45 w =>
 gdM (gd v53_45 false) (pureM v39_31) (fun v55_46 w =>
 gdM (gd v53_45 false) (oM Tryz.prog (Go.Op.fieldAddr 78 (.tmp 0) 0) 0 [v6_32]) (fun v56_47 w =>
 gdM (gd v53_45 false) (oM Tryz.prog (Go.Op.load 9 (.tmp 0)) 9 [v56_47]) (fun v57_48 w =>
 gdM (gd v53_45 false) (oM Tryz.prog (Go.Op.call (Go.Call.mk (Go.Callee.builtin Go.Builtin.len) #[(.tmp 0)] #[9])) 3 [v57_48]) (fun v58_49 w =>
 gdM (gd v53_45 false) (oM Tryz.prog (Go.Op.binOp Go.BinOp.geq 3 (.tmp 0) (.tmp 1) 3) 4 [v55_46, v58_49]) (fun v59_50 w =>
 oM Tryz.prog (Go.Op.pick (.tmp 0) (.tmp 1) (.tmp 2)) 4 [v53_45, (.bool true), v59_50] (fun v60_51 w =>
 condM v60_51
 (M_16 [x, v39_31] w)
 (stageM w (fun C_52 w => (oH Tryz.prog (Go.Op.fieldAddr 78 (.tmp 0) 1) 0 [v6_32] (upto C_52 0) (fun v61_53 =>
 oH Tryz.prog (Go.Op.load 9 (.tmp 0)) 9 [v61_53] (upto C_52 0) (fun v62_54 =>
 pureH v39_31 (upto C_52 0) (fun v63_55 =>
 oH Tryz.prog (Go.Op.fieldAddr 78 (.tmp 0) 0) 0 [v6_32] (upto C_52 0) (fun v64_56 =>
 oH Tryz.prog (Go.Op.load 9 (.tmp 0)) 9 [v64_56] (upto C_52 0) (fun v65_57 =>
 pureH v39_31 (upto C_52 0) (fun v66_58 =>
 pureH v39_31 (upto C_52 0) (fun v67_59 =>
 oH Tryz.prog (Go.Op.binOp Go.BinOp.add 3 (.tmp 0) (.tmp 1) 3) 3 [v67_59, (.int .i64 64)] (upto C_52 0) (fun v68_60 =>
 oH Tryz.prog (Go.Op.fieldAddr 78 (.tmp 0) 0) 0 [v6_32] (upto C_52 0) (fun v69_61 =>
 oH Tryz.prog (Go.Op.load 9 (.tmp 0)) 9 [v69_61] (upto C_52 0) (fun v70_62 =>
 oH Tryz.prog (Go.Op.call (Go.Call.mk (Go.Callee.builtin Go.Builtin.len) #[(.tmp 0)] #[9])) 3 [v70_62] (upto C_52 0) (fun v71_63 =>
 oH Tryz.prog (Go.Op.call (Go.Call.mk (Go.Callee.builtin Go.Builtin.min) #[(.tmp 0), (.tmp 1)] #[3, 3])) 3 [v68_60, v71_63] (upto C_52 0) (fun v72_64 =>
 oH Tryz.prog (Go.Op.slice 9 (.tmp 0) (some (.tmp 1)) (some (.tmp 2)) none) 9 [v65_57, v66_58, v72_64] (upto C_52 0) (fun v73_65 =>
 callM Tryz.prog 44 #[v62_54, v63_55, v73_65] (fun v74_66 w => C_52 1 w ∧ (
 oM Tryz.prog (Go.Op.fieldAddr 78 (.tmp 0) 1) 0 [v6_32] (fun v75_67 w => C_52 2 w ∧ (
 oM Tryz.prog (Go.Op.store 9 (.tmp 0) (.tmp 1)) 0 [v75_67, v74_66] (fun _ w => C_52 3 w ∧ (
 stageM w (fun C_68 w => (pureH a0 (upto C_68 0) (fun v76_69 =>
 oH Tryz.prog (Go.Op.nilCheck (.tmp 0)) 0 [v76_69] (upto C_68 0) (fun v77_70 =>
 oH Tryz.prog (Go.Op.fieldAddr 60 (.tmp 0) 0) 0 [v77_70] (upto C_68 0) (fun v78_71 =>
 oH Tryz.prog (Go.Op.load 56 (.tmp 0)) 56 [v78_71] (upto C_68 0) (fun v79_72 =>
 oH Tryz.prog (Go.Op.fieldAddr 76 (.tmp 0) 0) 0 [v5_20] (upto C_68 0) (fun v80_73 =>
 oH Tryz.prog (Go.Op.load 3 (.tmp 0)) 3 [v80_73] (upto C_68 0) (fun v81_74 =>
 oH Tryz.prog (Go.Op.load 78 (.tmp 0)) 78 [v6_32] (upto C_68 0) (fun v82_75 =>
 oM Tryz.prog (Go.Op.mapUpdate 56 (.tmp 0) (.tmp 1) (.tmp 2)) 0 [v79_72, v81_74, v82_75] (fun _ w => C_68 1 w ∧ (
 M_16 [x, v39_31] w)) w))))))))))) w)) w)) w))))))))))))))))) w) w) w) w) w) w) w) w) w) w) w) w) w) w) w) w) w) w))) w)) w))))))))))))) w) w) w) w)
theorem survAll_snoc (keep : List Int) (q : List (Int × Int)) (p : Int × Int) (F : Int → Bs × Bs) (i : Nat) : survAll keep F i (q ++ [p]) = survF keep (survAll keep F i q) (i + q.length) p := by
  induction q generalizing F i with
  | nil => rfl
  | cons r q ih =>
    show survAll keep (survF keep F i r) (i + 1) (q ++ [p]) = survF keep (survAll keep (survF keep F i r) (i + 1) q) (i + (q.length + 1)) p
    rw [ih]
    congr 1
    omega
section
variable {w : World} {b : Nat} {A : Ab} {h : Dk} {K : Value → World → Prop}
theorem IsDk.reF (d : IsDk w b A h) {F : Int → Bs × Bs} (e : F = A.F) : IsDk w b { A with F := F } h := by
  rw [e]; exact d
set_option maxHeartbeats 1000000 in
theorem crMid_ok {n m i : Nat} {p : Int × Int} {M : List Value → World → Prop} (d : IsDk w b A h) (hp : w.heap[n]? = some (.cells #[.int .i64 p.1, .int .i64 p.2] 76 (0, 0))) {cur : Array Value} (hm : w.heap[m]? = some (.cells cur 78 (0, 0))) (hc0 : cur[0]? = some (bsV (A.F p.1).1)) (hc1 : cur[1]? = some (bsV (A.F p.1).2)) (hs : cur.size = 2)
    (hn : ¬ Own b h n) (hm' : ¬ Own b h m) (hm2 : ¬ Rdb h m) (hnm : n ≠ m) (h0 : 0 ≤ p.2 ∧ p.2 < 262144) (hi : i < 2 ^ 40) {kv : Value} {kl : List Int} (hkr : RowR intC 1 w kv kl) (hkl : kl.length < 2 ^ 62)
    (k : ∀ w', IsDk w' b { A with F := survF kl A.F i p } h → Fr (fun j => Own b h j ∨ j = m) w w' → M [.int .i64 (i : Int), .int .i64 (64 * p.2)] w') : crMid (dkP b) kv (.pointer (some ⟨n, 0, none⟩)) (.pointer (some ⟨m, 0, none⟩)) (.int .i64 (64 * p.2)) (.int .i64 (i : Int)) M w := by
  unfold crMid
  have z7 := cell_of_block hm 0
  have z71 := cell_of_block hm 1
  have hsz := d.wf.sz p.1
  have hlen : (A.F p.1).1.length ≤ 16777216 := hsz.1
  rw [hc0] at z7
  rw [hc1] at z71
  obtain ⟨ad, c, rfl, h0', hc⟩ := id hkr
  by_cases hkn : kl = []
  · subst hkn
    have hsv : survF [] A.F i p = A.F := by unfold survF; rw [if_pos (.inl rfl)]
    repeat (any_goals (first
    | (with_reducible first|((refine idGd ?_); refine zD ?_)|((refine idPick ?_); refine yB ?_)|((refine idCond ?_); refine yL ?_))
    | ((with_reducible refine idO ?_); (with_reducible refine oM_gen fun Kv hK=>?_); simp [go_sem]; refine hK _ _ ?_; clear hK; clear Kv)))
    exact k w (d.reF hsv) (Fr.refl _ _)
  · rcases hc with hc | ⟨kb, ko, rfl, hkb, hc⟩
    · exact absurd hc hkn
    have hkpos : 0 < kl.length := List.length_pos_iff.2 hkn
    have hmod : ((i : Int)).tmod (kl.length : Int) = ((i % kl.length : Nat) : Int) := by
      rw [tmodN _ _ (by omega)]; rfl
    have hml : i % kl.length < kl.length := Nat.mod_lt _ hkpos
    have hki := hc (i % kl.length) (i64V kl[i % kl.length]) (by rw [show flat intC kl = kl.map i64V from flat_one i64V kl]; simp [hml])
    unfold i64V at hki
    have hixk : (Instr.indexAt 36 (.slice (some ⟨kb, ko, none⟩) kl.length c) (.int .i64 ((i % kl.length : Nat) : Int))).run Tryz.prog w = .ok (.pointer (some ⟨kb, ko + i % kl.length, none⟩)) w := by
      rw [run_indexAt_slice (h := by kernel_rfl), if_pos (by omega)]
      have hs : (sizeOf (Tryz.prog.elem 36)).run Tryz.prog w = .ok 1 w := by kernel_rfl
      rw [hs]
      simp only [Result.andThen, Int.toNat_natCast, add_none, Nat.mul_one]
    rw [Int.natCast_emod] at hixk
    have hgd : kl.getD (i % kl.length) 0 = kl[i % kl.length] := by simp [List.getD, hml]
    clear hkr hc h0'
    obtain ⟨kx, hkx⟩ : ∃ kx, kx = kl[i % kl.length] := ⟨_, rfl⟩
    rw [← hkx] at hki hgd
    clear hkx
    repeat (any_goals (first
    | (with_reducible first|refine pureM_in ?_|((refine idGd ?_); ((refine idGdD ?_); first|refine zI ?_|refine zJ ?_|refine zK (fun hg=>?_) fun hg=>?_))|((refine idPick ?_); first|refine yD ?_|refine yE ?_)|((refine idCond ?_); first|refine yL ?_|refine yP (fun hg=>?_) fun hg=>?_))
    | ((with_reducible refine idO ?_); (with_reducible refine oM_gen fun Kv hK=>?_); simp [go_sem, hmod, hixk, hki, z7, z71]; (first|refine hK _ _ ?_|refine And.intro (by omega) (hK _ _ ?_)); clear hK; clear Kv)))
    · have hsv : survF kl A.F i p = A.F := by unfold survF; rw [if_pos (.inr (.inl (by rw [hgd]; assumption)))]
      exact k w (d.reF hsv) (Fr.refl _ _)
    · have hsv : survF kl A.F i p = A.F := by unfold survF; rw [if_pos (.inr (.inr (by assumption)))]
      exact k w (d.reF hsv) (Fr.refl _ _)
    · have hbig : ¬ ((A.F p.1).1.length : Int) ≤ 64 * p.2 := by assumption
      have hodd : ¬ kx % 2 = 0 := by assumption
      have hsv : survF kl A.F i p = setF A.F p.1 ((A.F p.1).1, putB (A.F p.1).2 (64 * p.2).toNat (DkSpec.sector (A.F p.1).1 p.2)) := by
        unfold survF
        rw [if_neg]
        rw [hgd]
        rintro (h | h | h)
        · exact hkn h
        · exact hodd h
        · exact hbig h
      refine crTail_ok (n := n) (m := m) (p := p) d hp hm hc0 hc1 hs hn hm' hm2 hnm h0 (by omega) (fun w8 d8 f8 => ?_)
      refine k w8 ?_ f8
      rw [hsv]
      exact d8
set_option maxHeartbeats 1000000 in
theorem crBody_ok {i : Nat} {p : Int × Int} {M : List Value → World → Prop} (d : IsDk w b A h) {qa : Option Addr} {qc : Nat} (hq : h.q = .slice qa A.queue.length qc) (hqi : A.queue[i]? = some p) {kv : Value} {kl : List Int} (hkr : RowR intC 1 w kv kl) (hkl : kl.length < 2 ^ 62)
    (k : ∀ w' (at_ : Int), IsDk w' b { A with F := survF kl A.F i p } h → Step w b h w' h → M [.int .i64 (i : Int), .int .i64 at_] w') : crBody (dkP b) kv (.slice qa A.queue.length qc) (.int .i64 (i : Int)) M w := by
  unfold crBody
  have hlt : i < A.queue.length := (List.getElem?_eq_some_iff.1 hqi).1
  have hql := d.wf.ql
  have hpr := d.wf.qr p (List.mem_of_getElem? hqi)
  have ho3 := d.que
  rw [hq] at ho3
  obtain ⟨g, c, hv, e0, e1⟩ := sec_cells ho3 hqi
  cases hv
  have hix := idxSec (c := qc) (g := g) hlt w
  repeat (any_goals ((with_reducible refine idO ?_); (with_reducible refine oM_gen fun Kv hK=>?_); simp [go_sem, hix, e0, e1]; refine hK _ _ ?_; clear hK; clear Kv))
  have pf : Fr (fun _ => False) w (w.alloc (.cells #[.int .i64 p.1, .int .i64 p.2] 76 (0, 0))) := (Fr.refl _ _).alloc _
  have p0 := heap_alloc_new w (.cells #[.int .i64 p.1, .int .i64 p.2] 76 (0, 0))
  have pz := alloc_size w (.cells #[.int .i64 p.1, .int .i64 p.2] 76 (0, 0))
  generalize w.alloc (.cells #[.int .i64 p.1, .int .i64 p.2] 76 (0, 0)) = w4 at *
  have d4 := d.fresh pf
  have p00 := cell_of_block p0 0
  have p01 := cell_of_block p0 1
  simp at p00 p01
  have c0 := d4.c 0
  simp only [dkCells] at c0
  have lk : ∀ W : World, IsDk W b A h → _ := fun W hW => hW.look p.1
  simp only [flV, bsV] at lk
  have hwr : IntKind.i64.wrap (p.2 * 64) = 64 * p.2 := by rw [wrapI64 _ (by omega) (by omega)]; omega
  refine ⟨fun sg w' => sg ≤ 2 → IsDk w' b A h ∧ w'.heap[w.heap.size]? = some (.cells #[.int .i64 p.1, .int .i64 p.2] 76 (0, 0)), fun _ => ⟨d4.heap rfl, p0⟩, ?_⟩
  repeat (first | (with_reducible refine pureH_in ?_) | (with_reducible refine oH_nil ?_) | (with_reducible refine gdH_true rfl ?_) | (with_reducible refine gdH_false rfl ?_) | (refine oH_of ⟨_, rfl⟩ (fun W0 hW0 => by (obtain ⟨s0, hs0, hC⟩ := hW0); (refine oM_gen (fun Kv hK => ?_)); simp [go_sem, cell_of_block (hC (by omega)).1.blk, cell_of_block (hC (by omega)).2, dkCells, lk W0 (hC (by omega)).1, hwr]; (first | exact hK _ _ ⟨rfl, rfl⟩ | exact ⟨by omega, hK _ _ ⟨rfl, rfl⟩⟩)) ?_))
  generalize hw5 : ({ w4 with drawn := w4.drawn + 1 } : World) = w5
  have f35 : Fr (fun _ => False) w w5 := by rw [← hw5]; exact pf.drew
  have d5 := d.fresh f35
  have p5 : w5.heap[w.heap.size]? = some (.cells #[.int .i64 p.1, .int .i64 p.2] 76 (0, 0)) := by rw [← hw5]; exact p0
  clear hw5
  repeat (any_goals ((with_reducible refine idO ?_); (with_reducible refine oM_gen fun Kv hK=>?_); simp [go_sem]; refine hK _ _ ?_; clear hK; clear Kv))
  have z35 := f35.size
  have p5l := (Array.getElem?_eq_some_iff.1 p5).1
  have g6 : Fr (fun _ => False) w5 (w5.alloc (.cells #[.string ⟨#[]⟩, .string ⟨#[]⟩] 78 (0, 0))) := (Fr.refl _ _).alloc _
  have n6 := heap_alloc_new w5 (.cells #[.string ⟨#[]⟩, .string ⟨#[]⟩] 78 (0, 0))
  generalize w5.alloc (.cells #[.string ⟨#[]⟩, .string ⟨#[]⟩] 78 (0, 0)) = w6 at *
  refine ⟨fun _ => ⟨d5.fresh g6, (g6.block _ p5l (fun h => h)).trans p5⟩, ?_⟩
  refine store2_at (fun w => by kernel_rfl) rfl rfl n6 (by simp) (fun w7 cur7 g7 n7 s7 _ a7 b7 => ?_)
  have f7 : Fr (fun _ => False) w5 w7 := g6.by g7 (fun i hi => by cases hi; exact .inr (Nat.le_refl _))
  have f37 := f35.trans f7 (fun _ h => h.elim)
  have d7 := d.fresh f37
  have p7 := (f7.block _ p5l (fun h => h)).trans p5
  refine ⟨fun _ => ⟨d7, p7⟩, fun hs => absurd hs (by decide), ?_⟩
  rw [Nat.zero_add] at b7
  have hz37 := f37.size
  have hown : ∀ i, Own b h i ∨ Rdb h i → i < w.heap.size := fun i hi => d.lt hi
  have hkr7 : RowR intC 1 w7 kv kl := hkr.keep hz37 (fun i _ hi => f37.block i hi (fun h => h))
  refine crMid_ok (n := w.heap.size) (m := w5.heap.size) (p := p) d7 p7 n7 a7 b7 (by rw [s7]; rfl) (fun e => by have := hown _ (.inl e); omega) (fun e => by have := hown _ (.inl e); omega) (fun e => by have := hown _ (.inr e); omega) (by omega) ⟨hpr.2.2.1, hpr.2.2.2⟩ (by omega) hkr7 hkl (fun w8 d8 f8 => ?_)
  exact k w8 _ d8 ⟨(f37.mono (fun i _ hi => hi.elim)).trans f8 (fun i hi => hi.elim .inl (fun e => .inr (by omega))), fun _ h => .inl h, fun _ h => .inl h⟩
set_option maxHeartbeats 1000000 in
theorem crash_ok (d : IsDk w b A h) {kv : Value} {kl : List Int} (hkr : RowR intC 1 w kv kl) (hkl : kl.length < 2 ^ 62) (hkv : ∀ w', Fr (Own b h) w w' → RowR intC 1 w' kv kl) (k : ∀ w' h', IsDk w' b (crashA A kl) h' → Step w b h w' h' → K (.tuple #[]) w') : callM Tryz.prog 20 #[dkP b, kv] K w := by
  apply sh_20_ok
  unfold sh_20
  have c4 := d.c 4
  have f4 := d.fz 4
  simp only [dkCells] at c4
  have d1 := d.set4 true
  have c5 := d1.c 5
  have f5 := d1.fz 5
  simp only [dkCells] at c5
  have d2 := d1.set5 0 (by omega)
  have c1 := d2.c 1
  simp only [dkCells] at c1
  obtain ⟨qa, qc, hq⟩ := owns_len d.que
  repeat (any_goals (first
  | (with_reducible ((refine idCond ?_); refine yY (fun hg=>?_) fun hg=>?_))
  | ((with_reducible refine idO ?_); (with_reducible refine oM_gen fun Kv hK=>?_); simp [go_sem, c4, f4, c5, f5, c1, hq]; refine hK _ _ ?_; clear hK; clear Kv)))
  · have e : crashA A kl = A := by unfold crashA; rw [if_pos hg]
    rw [e] at k
    exact k w h d (Step.refl _ _ _)
  have hdown : A.down = false := hg
  have t2 : Step w b h ((w.setCell ⟨b, 4, none⟩ (.bool true)).setCell ⟨b, 5, none⟩ (.int .i64 0)) h := (step_set _ _ _ _ _).trans (step_set _ _ _ _ _)
  generalize (w.setCell ⟨b, 4, none⟩ (.bool true)).setCell ⟨b, 5, none⟩ (.int .i64 0) = w2 at *
  refine ⟨fun l w' => ∃ u1 u2, ∃ i : Nat, l = [u1, u2, .int .i64 (i : Int)] ∧ i ≤ A.queue.length ∧ IsDk w' b { A with F := survAll kl A.F 0 (A.queue.take i), down := true, armed := 0 } h ∧ Step w b h w' h, fun l _ => match l with | [_, _, .int _ n] => ((A.queue.length : Int) - n).toNat | _ => 0, ⟨_, _, 0, rfl, by omega, d2, t2⟩, ?_⟩
  rintro l u w3 ⟨u1, u2, i, rfl, hin, d3, t3⟩
  have hqlen := d.wf.ql
  simp only [List.getD_cons_zero, List.getD_cons_succ]
  repeat (any_goals (first
  | (with_reducible ((refine idCond ?_); refine yP (fun hg=>?_) fun hg=>?_))
  | ((with_reducible refine idO ?_); (with_reducible refine oM_gen fun Kv hK=>?_); simp [go_sem]; refine hK _ _ ?_; clear hK; clear Kv)))
  · have hlt : i < A.queue.length := by omega
    obtain ⟨Fi, hFi⟩ : ∃ Fi, Fi = survAll kl A.F 0 (A.queue.take i) := ⟨_, rfl⟩
    rw [← hFi] at d3
    obtain ⟨p, hp⟩ : ∃ p, p = A.queue[i] := ⟨_, rfl⟩
    have hqi : A.queue[i]? = some p := by rw [hp]; exact List.getElem?_eq_getElem hlt
    have hnext : survAll kl A.F 0 (A.queue.take (i + 1)) = survF kl Fi i p := by
      rw [List.take_succ_eq_append_getElem hlt, survAll_snoc, ← hFi, hp, List.length_take, Nat.zero_add, Nat.min_eq_left (by omega)]
    have hkr3 : RowR intC 1 w3 kv kl := hkv _ t3.fr
    refine ⟨fun l w' => ∃ u1, ∃ at_ : Int, l = [u1, .int .i64 at_] ∧ IsDk w' b { A with F := survAll kl A.F 0 (A.queue.take (i + 1)), down := true, armed := 0 } h ∧ Step w b h w' h, ?_, ?_⟩
    · refine crBody_ok (M := fun l w' => ∃ u1, ∃ at_ : Int, l = [u1, .int .i64 at_] ∧ IsDk w' b { A with F := survAll kl A.F 0 (A.queue.take (i + 1)), down := true, armed := 0 } h ∧ Step w b h w' h) (p := p) d3 hq hqi hkr3 hkl (fun w' at_ d' t' => ⟨_, at_, rfl, ?_, t3.trans t'⟩)
      rw [hnext]
      exact d'
    · rintro l u w4 ⟨u3, at_, rfl, d4, t4⟩
      simp only [List.getD_cons_zero, List.getD_cons_succ]
      repeat (any_goals ((with_reducible refine idO ?_); (with_reducible refine oM_gen fun Kv hK=>?_); simp [go_sem]; (try simp (disch := omega) only [wrapI64, wrapU8, wrapU32, wrapU64]); refine hK _ _ ?_; clear hK; clear Kv))
      refine ⟨⟨_, _, i + 1, rfl, by omega, d4, t4⟩, ?_⟩
      show ((A.queue.length : Int) - ((i : Int) + 1)).toNat < _
      omega
  · have hi : i = A.queue.length := by omega
    subst hi
    rw [List.take_of_length_le (Nat.le_refl _)] at d3
    have e : crashA A kl = { ({ A with F := survAll kl A.F 0 A.queue, down := true, armed := 0 } : Ab) with F := fun f => ((survAll kl A.F 0 A.queue f).2, (survAll kl A.F 0 A.queue f).2), queue := [] } := by
      unfold crashA
      rw [if_neg (by rw [hdown]; simp)]
    rw [e] at k
    exact crEnd_ok d3 (fun w' h' d' t' => k w' h' d' (t3.trans t'))
end
end Go.Proofs
namespace Go.Proofs
open Go Go.Sh Go.RowKit DkSpec
set_option linter.unusedSimpArgs false
set_option linter.unusedVariables false
set_option maxRecDepth 10000
attribute [local go_sem] oM_indexAddr
section
variable {w : World} {b : Nat} {A : Ab} {h : Dk} {K : Value → World → Prop}
theorem inBlock_own {B : Nat} {e : TypeId} {sz : Nat} {v : Value} {n : Nat} {xs : List Value} (ho : w.ownsRow B e sz v n xs) {i : Nat} (hi : Value.inBlock v = some i) : v.ownBlock = some i := by
  rcases ho.2 with ⟨rfl, _⟩ | ⟨g, cap, cur, rfl, _⟩
  · cases hi
  · cases hi; rfl
theorem IsDk.keepRow (d : IsDk w b A h) : RowR intC 1 w h.kp A.keep := by
  have := d.kep
  rw [show A.keep.map i64V = flat intC A.keep from (flat_one i64V A.keep).symm] at this
  exact RowR.of_owns this
theorem crashK_ok (d : IsDk w b A h) (k : ∀ w' h', IsDk w' b (crashA A A.keep) h' → Step w b h w' h' → K (.tuple #[]) w') : callM Tryz.prog 20 #[dkP b, h.kp] K w :=
  crash_ok d d.keepRow d.wf.kl (fun w' f => d.keepRow.keep f.size (fun i hi hlt => f.block i hlt (fun ho => by
    have hk := inBlock_own d.kep hi
    have := d.kne hk
    rcases ho with rfl | rfl | rfl | ho
    · exact this.1 rfl
    · exact this.2.1 rfl
    · exact this.2.2.1 rfl
    · exact this.2.2.2 ho))) k
theorem Write_ok (d : IsDk w b A h) (f at_ : Int) (s : Bs) (hs : s.length < 2 ^ 60) (hat : -2 ^ 63 ≤ at_ ∧ at_ < 2 ^ 63) (k : ∀ w' h', IsDk w' b (writeA A f at_ s).2 h' → Step w b h w' h' → K (.int .i64 (writeA A f at_ s).1) w') : callM Tryz.prog 30 #[dkP b, .int .i64 f, .int .i64 at_, bsV s] K w := by
  apply sh_30_ok
  unfold sh_30
  refine ends_ok d (fun w1 d1 t1 => ?_)
  refine write_ok d1 f at_ s hs hat (fun w2 h2 d2 t2 => ?_)
  have t02 := t1.trans t2
  unfold writeA at k
  cases he : (endsA A).1 with
  | false =>
    rw [he] at k
    simp only [Bool.false_eq_true, if_false] at k
    repeat (any_goals (with_reducible ((refine idCond ?_); refine yM ?_)))
    exact k w2 h2 d2 t02
  | true =>
    rw [he] at k
    simp only [if_true] at k
    have c6 := d2.c 6
    simp only [dkCells] at c6
    repeat (any_goals (first
    | (with_reducible refine crashK_ok d2 ?_)
    | (with_reducible ((refine idCond ?_); refine yL ?_))
    | ((with_reducible refine idO ?_); (with_reducible refine oM_gen fun Kv hK=>?_); simp [go_sem, c6]; refine hK _ _ ?_; clear hK; clear Kv)))
    intro w3 h3 d3 t3
    skip
    exact k w3 h3 d3 (t02.trans t3)
theorem Sync_ok (d : IsDk w b A h) (f : Int) (k : ∀ w' h', IsDk w' b (syncA A f).2 h' → Step w b h w' h' → K (.int .i64 (syncA A f).1) w') : callM Tryz.prog 33 #[dkP b, .int .i64 f] K w := by
  apply sh_33_ok
  unfold sh_33
  refine ⟨fun l w' => l = [] ∧ ∃ h', IsDk w' b (comesA A) h' ∧ Step w b h w' h', ?_, ?_⟩
  · refine ends_ok d (fun w1 d1 t1 => ?_)
    unfold comesA
    cases he : (endsA A).1 with
    | false =>
      simp only [Bool.false_eq_true, if_false]
      repeat (any_goals (with_reducible ((refine idCond ?_); refine yM ?_)))
      exact ⟨by first | trivial | rfl, h, d1, t1⟩
    | true =>
      simp only [if_true]
      have c6 := d1.c 6
      simp only [dkCells] at c6
      repeat (any_goals (first
      | (with_reducible refine crashK_ok d1 ?_)
      | (with_reducible ((refine idCond ?_); refine yL ?_))
      | ((with_reducible refine idO ?_); (with_reducible refine oM_gen fun Kv hK=>?_); simp [go_sem, c6]; refine hK _ _ ?_; clear hK; clear Kv)))
      intro w3 h3 d3 t3
      exact ⟨by first | trivial | rfl, h3, d3, t1.trans t3⟩
  · rintro l u w1 ⟨rfl, h1, d1, t1⟩
    refine may_ok d1 f ?_
    have c0 := d1.c 0
    have c3 := d1.c 3
    have f3 := d1.fz 3
    simp only [dkCells] at c0 c3
    have hl := d1.look f
    have l0 := d1.wf.l0
    have l1 := d1.wf.l1
    unfold syncA at k
    repeat (any_goals (first
    | (with_reducible ((refine idCond ?_); first|refine yP (fun hg=>?_) fun hg=>?_|refine yS (fun hg=>?_) fun hg=>?_))
    | ((with_reducible refine idO ?_); (with_reducible refine oM_gen fun Kv hK=>?_); simp [go_sem, c0, c3, f3, hl, flV, bsV]; (try simp (disch := omega) only [wrapI64, wrapU8, wrapU32, wrapU64]); refine hK _ _ ?_; clear hK; clear Kv)))
    · rename_i hm
      rw [if_neg (by omega), if_pos hg] at k
      exact k _ _ (d1.set3 ((comesA A).lost - 1) (by omega)) (t1.trans (step_set _ _ _ _ _))
    · rename_i hm
      rw [if_neg (by omega), if_neg hg] at k
      refine settle_ok d1 f ((comesA A).F f).1 (d1.wf.sz f).1 (fun w2 h2 d2 t2 => ?_)
      skip
      exact k w2 h2 d2 (t1.trans t2)
    · rw [if_pos hg] at k
      exact k _ _ d1 t1
theorem Trunc_ok (d : IsDk w b A h) (f n : Int) (k : ∀ w' h', IsDk w' b (truncA A f n).2 h' → Step w b h w' h' → K (.int .i64 (truncA A f n).1) w') : callM Tryz.prog 35 #[dkP b, .int .i64 f, .int .i64 n] K w := by
  apply sh_35_ok
  unfold sh_35
  refine ⟨fun l w' => l = [] ∧ ∃ h', IsDk w' b (comesA A) h' ∧ Step w b h w' h', ?_, ?_⟩
  · refine ends_ok d (fun w1 d1 t1 => ?_)
    unfold comesA
    cases he : (endsA A).1 with
    | false =>
      simp only [Bool.false_eq_true, if_false]
      repeat (any_goals (with_reducible ((refine idCond ?_); refine yM ?_)))
      exact ⟨by first | trivial | rfl, h, d1, t1⟩
    | true =>
      simp only [if_true]
      have c6 := d1.c 6
      simp only [dkCells] at c6
      repeat (any_goals (first
      | (with_reducible refine crashK_ok d1 ?_)
      | (with_reducible ((refine idCond ?_); refine yL ?_))
      | ((with_reducible refine idO ?_); (with_reducible refine oM_gen fun Kv hK=>?_); simp [go_sem, c6]; refine hK _ _ ?_; clear hK; clear Kv)))
      intro w3 h3 d3 t3
      exact ⟨by first | trivial | rfl, h3, d3, t1.trans t3⟩
  · rintro l u w1 ⟨rfl, h1, d1, t1⟩
    refine may_ok d1 f ?_
    have c0 := d1.c 0
    simp only [dkCells] at c0
    have hl := d1.look f
    unfold truncA at k
    repeat (any_goals (first
    | (with_reducible refine size_ok d1 f ?_)
    | (with_reducible first|refine pureM_in ?_|((refine idGd ?_); ((refine idGdD ?_); first|refine zI ?_|refine zJ ?_|refine zK (fun hg=>?_) fun hg=>?_))|((refine idPick ?_); first|refine yD ?_|refine yE ?_)|((refine idCond ?_); first|refine yL ?_|refine yP (fun hg=>?_) fun hg=>?_|refine yS (fun hg=>?_) fun hg=>?_))
    | ((with_reducible refine idO ?_); (with_reducible refine oM_gen fun Kv hK=>?_); simp [go_sem, c0, hl, flV, bsV]; (first|refine hK _ _ ?_|refine And.intro (by omega) (hK _ _ ?_)); clear hK; clear Kv)))
    · rename_i hm
      rw [if_neg (by omega), if_pos (.inl hg)] at k
      exact k _ _ d1 t1
    · rename_i hm h0
      rw [if_neg (by omega), if_pos (.inr (by omega))] at k
      exact k _ _ d1 t1
    · rename_i hm h0
      rw [if_neg (by omega), if_neg (by omega)] at k
      have hsz := (d1.wf.sz f).1
      have e : (⟨((comesA A).F f).1.toArray⟩ : ByteArray).extract 0 n.toNat = ⟨(((comesA A).F f).1.take n.toNat).toArray⟩ := by
        rw [ba_ext]; simp
      try rw [e]
      refine settle_ok d1 f (((comesA A).F f).1.take n.toNat) (by simp; omega) (fun w2 h2 d2 t2 => ?_)
      skip
      exact k w2 h2 d2 (t1.trans t2)
    · rw [if_pos hg] at k
      exact k _ _ d1 t1
end
end Go.Proofs
namespace Go.Proofs
open Go Go.Sh Go.RowKit CodeSpec JnSpec DkSpec
set_option linter.unusedSimpArgs false
set_option linter.unusedVariables false
set_option maxRecDepth 10000
attribute [local go_sem] oM_indexAddr
def JO (p : Nat) (v : Value) (i : Nat) : Prop := i = p ∨ v.ownBlock = some i
def jnCells (b : Nat) (f : Int) (v : Value) (j : Jn) : Array Value := #[dkP b, .int .i64 f, v, .int .i64 (j.bytes : Int), .bool j.broken]
structure IsJn (w : World) (b : Nat) (h : Dk) (p : Nat) (f : Int) (j : Jn) (v : Value) : Prop where
  blk : w.heap[p]? = some (.cells (jnCells b f v j) 70 (0, 0))
  row : w.ownsRow 0 9 1 v j.recs.length (j.recs.map Cd.strV)
  sep : ∀ i, JO p v i → ¬ Own b h i ∧ ¬ Rdb h i
  six : ∀ i, JO p v i → 6 ≤ i
  len : j.recs.length ≤ j.bytes ∧ j.bytes ≤ 16777216
structure Sys (w : World) (b : Nat) (A : Ab) (h : Dk) : Prop where
  d : IsDk w b A h
  l : Cd.Laid w
  six : ∀ i, Own b h i → 6 ≤ i
section
variable {w w' : World} {b p : Nat} {A A' : Ab} {h h' : Dk} {f : Int} {j j' : Jn} {v v' : Value} {K : Value → World → Prop}
theorem Sys.step (s : Sys w b A h) (d : IsDk w' b A' h') (t : Step w b h w' h') : Sys w' b A' h' :=
  ⟨d, s.l.keep (fun k hk => t.fr.block k (by have := s.l.size; omega) (fun ho => by have := s.six k ho; omega)) t.fr.size, fun i hi => (t.own i hi).elim (s.six i) (fun hn => by have := s.l.size; omega)⟩
theorem Sys.fresh (s : Sys w b A h) {S : Nat → Prop} (f : Fr S w w') (hs : ∀ i, S i → ¬ (Own b h i ∨ Rdb h i) ∧ 6 ≤ i) : Sys w' b A h :=
  ⟨s.d.keep (fun i hi => f.block i (s.d.lt hi) (fun hx => (hs i hx).1 hi)), s.l.keep (fun k hk => f.block k (by have := s.l.size; omega) (fun hx => by have := (hs k hx).2; omega)) f.size, s.six⟩
theorem Sys.below (s : Sys w b A h) (f : Below w.heap.size w w') : Sys w' b A h :=
  s.fresh (S := fun _ => False) ⟨f.os, f.tape, f.output, f.size, fun i hi _ => f.block i hi⟩ (fun _ h => h.elim)
theorem IsJn.lt (jn : IsJn w b h p f j v) {i : Nat} (hi : JO p v i) : i < w.heap.size := by
  rcases hi with rfl | hi
  · exact (Array.getElem?_eq_some_iff.1 jn.blk).1
  · exact (owns_own jn.row hi).1
theorem IsJn.pv (jn : IsJn w b h p f j v) : v.ownBlock ≠ some p := fun hp => by
  obtain ⟨_, _, cur, hc⟩ := owns_own jn.row hp
  rw [jn.blk] at hc; cases hc
theorem IsJn.keep (jn : IsJn w b h p f j v) {S : Nat → Prop} (g : Fr S w w') (hs : ∀ i, S i → ¬ JO p v i) (ho : ∀ i, Own b h' i ∨ Rdb h' i → Own b h i ∨ Rdb h i ∨ w.heap.size ≤ i) : IsJn w' b h' p f j v := by
  have hb : ∀ i, JO p v i → w'.heap[i]? = w.heap[i]? := fun i hi => g.block i (jn.lt hi) (fun hx => hs i hx hi)
  refine ⟨by rw [hb p (.inl rfl)]; exact jn.blk, owns_keep jn.row (fun i hi => hb i (.inr hi)), fun i hi => ?_, jn.six, jn.len⟩
  have hl := jn.lt hi
  have hs := jn.sep i hi
  exact ⟨fun hx => (ho i (.inl hx)).elim hs.1 (fun hy => hy.elim hs.2 (fun hz => by omega)), fun hx => (ho i (.inr hx)).elim hs.1 (fun hy => hy.elim hs.2 (fun hz => by omega))⟩
theorem IsJn.step (jn : IsJn w b h p f j v) (t : Step w b h w' h') : IsJn w' b h' p f j v :=
  jn.keep t.fr (fun i hi hj => (jn.sep i hj).1 hi) (fun i hi => hi.elim (fun hx => (t.own i hx).elim .inl (fun hy => .inr (.inr hy))) (fun hx => (t.rd i hx).elim (fun hy => .inr (.inl hy)) (fun hy => .inr (.inr hy))))
theorem IsJn.below (jn : IsJn w b h p f j v) (g : Below w.heap.size w w') : IsJn w' b h p f j v :=
  jn.keep (S := fun _ => False) ⟨g.os, g.tape, g.output, g.size, fun i hi _ => g.block i hi⟩ (fun _ h => h.elim) (fun i hi => hi.elim .inl (fun h => .inr (.inl h)))
theorem IsJn.c (jn : IsJn w b h p f j v) (i : Nat) : w.cell? ⟨p, i, none⟩ = (jnCells b f v j)[i]? := cell_of_block jn.blk i
theorem IsJn.fz (jn : IsJn w b h p f j v) (i : Nat) : w.frozen? ⟨p, i, none⟩ = false := frozen_of_block jn.blk i
@[reducible] def jnP (p : Nat) : Value := .pointer (some ⟨p, 0, none⟩)
theorem len_ok (jn : IsJn w b h p f j v) (k : K (.int .i64 (j.recs.length : Int)) w) : callM Tryz.prog 31 #[jnP p] K w := by
  apply sh_31_ok
  unfold sh_31 jnP
  have c2 := jn.c 2
  simp only [jnCells] at c2
  obtain ⟨va, vc, rfl⟩ := owns_len jn.row
  repeat (any_goals ((with_reducible refine idO ?_); (with_reducible refine oM_gen fun Kv hK=>?_); simp [go_sem, c2]; refine hK _ _ ?_; clear hK; clear Kv))
  exact k
theorem get_ok (jn : IsJn w b h p f j v) (i : Int) (k : K (.string ⟨(if i < 0 then [] else j.recs.getD i.toNat []).toArray⟩) w) : callM Tryz.prog 32 #[jnP p, .int .i64 i] K w := by
  apply sh_32_ok
  unfold sh_32 jnP
  have c2 := jn.c 2
  simp only [jnCells] at c2
  obtain ⟨va, vc, rfl⟩ := owns_len jn.row
  by_cases h0 : i < 0
  · rw [if_pos h0] at k
    repeat (any_goals (first
    | (with_reducible first|((refine idGd ?_); ((refine idGdD ?_); refine zJ ?_))|((refine idPick ?_); refine yD ?_)|((refine idCond ?_); refine yL ?_))
    | ((with_reducible refine idO ?_); (with_reducible refine oM_gen fun Kv hK=>?_); simp [go_sem, c2]; refine hK _ _ ?_; clear hK; clear Kv)))
    exact k
  · rw [if_neg h0] at k
    by_cases h1 : (j.recs.length : Int) ≤ i
    · rw [List.getD_eq_getElem?_getD, List.getElem?_eq_none (by omega)] at k
      repeat (any_goals (first
      | (with_reducible first|refine pureM_in ?_|((refine idGd ?_); ((refine idGdD ?_); refine zI ?_))|((refine idPick ?_); refine yE ?_)|((refine idCond ?_); refine yN ?_))
      | ((with_reducible refine idO ?_); (with_reducible refine oM_gen fun Kv hK=>?_); simp [go_sem, c2]; refine hK _ _ ?_; clear hK; clear Kv)))
      exact k
    · obtain ⟨n, rfl⟩ : ∃ n : Nat, i = n := ⟨i.toNat, by omega⟩
      have hn : n < j.recs.length := by omega
      simp only [Int.toNat_natCast, List.getD_eq_getElem?_getD, List.getElem?_eq_getElem hn, Option.getD_some] at k
      obtain ⟨ad, c, e, hc⟩ := Cd.RowOf.of_owns jn.row
      cases e
      rcases hc with hc | ⟨gb, go, rfl, hgb, hc⟩
      · rw [hc] at hn; simp at hn
      have hix := Cd.idx23 (b := gb) (o := go) (c := vc) hn w
      have hcn := hc n hn
      simp only [Cd.strV] at hcn
      repeat (any_goals (first
      | (with_reducible first|refine pureM_in ?_|((refine idGd ?_); ((refine idGdD ?_); refine zI ?_))|((refine idPick ?_); refine yE ?_)|((refine idCond ?_); refine yO ?_))
      | ((with_reducible refine idO ?_); (with_reducible refine oM_gen fun Kv hK=>?_); simp [go_sem, c2, hix, hcn]; refine hK _ _ ?_; clear hK; clear Kv)))
      exact k
end
end Go.Proofs
namespace Go.Proofs
open Go Go.Sh Go.RowKit CodeSpec JnSpec DkSpec
set_option linter.unusedSimpArgs false
set_option linter.unusedVariables false
set_option maxRecDepth 10000
section
variable {w w' : World} {b p : Nat} {A A' : Ab} {h h' : Dk} {f : Int} {j j' : Jn} {v v' : Value} {K : Value → World → Prop}
theorem all_ok (jn : IsJn w b h p f j v) (k : ∀ v' w', w'.ownsRow w.heap.size 9 1 v' j.recs.length (j.recs.map Cd.strV) → Below w.heap.size w w' → K v' w') : callM Tryz.prog 25 #[jnP p] K w := by
  apply sh_25_ok
  unfold sh_25 jnP
  have c2 := jn.c 2
  simp only [jnCells] at c2
  have hlen := jn.len
  have hrow := jn.row
  obtain ⟨va, vc, rfl⟩ := owns_len hrow
  have hmk := run_make (P := Tryz.prog) w 46 9 Tryz.t9 (.string ⟨#[]⟩) Tryz.underlying46 (by kernel_rfl) (by kernel_rfl) .i64 .i64 (j.recs.length : Int) (j.recs.length : Int) (by omega) (Int.le_refl _) (by
    have : Tryz.t9.bytes = 16 := by kernel_rfl
    rw [this]; omega) (by omega)
  simp only [Int.toNat_natCast] at hmk
  have hsz : Tryz.t9.size = 1 := by kernel_rfl
  rw [hsz, Nat.mul_one] at hmk
  obtain ⟨cs, hcs⟩ : ∃ cs, cs = madeCells (Value.string ⟨#[]⟩).cells j.recs.length := ⟨_, rfl⟩
  have hcz : cs.size = j.recs.length := by rw [hcs]; simp [madeCells]
  rw [← hcs] at hmk
  have hb1 : Below w.heap.size w (w.alloc (.cells cs 9)) := (Below.refl _ _).alloc (Nat.le_refl _) _
  have h1 := heap_alloc_new w (.cells cs 9)
  have jn1 := jn.below hb1
  have c21 := jn1.c 2
  simp only [jnCells] at c21
  repeat (any_goals ((with_reducible refine idO ?_); (with_reducible refine oM_gen fun Kv hK=>?_); simp [go_sem, c2, hmk]; refine hK _ _ ?_; clear hK; clear Kv))
  generalize w.alloc (.cells cs 9) = w1 at *
  by_cases hn : j.recs.length = 0
  · have hcp := run_copy_none (P := Tryz.prog) w1 46 46 3 9 (some ⟨w.heap.size, 0, none⟩) va j.recs.length j.recs.length j.recs.length vc Tryz.underlying46 (by kernel_rfl) (by rw [hn]; rfl)
    repeat (any_goals ((with_reducible refine idO ?_); (with_reducible refine oM_gen fun Kv hK=>?_); simp [go_sem, c21, hcp]; refine hK _ _ ?_; clear hK; clear Kv))
    have e0 : j.recs = [] := List.length_eq_zero_iff.1 hn
    refine k _ w1 ⟨by simp, .inr ⟨_, _, _, rfl, Nat.le_refl _, h1, Nat.le_refl _, by unfold maxLen; omega, by omega, by rw [hn, e0]; simp⟩⟩ hb1
  · obtain ⟨g, cap, cur, hv, hg, _, hcur, hcs2, hnc, hcell⟩ := owns_cells jn1.row (by omega)
    cases hv
    have hxl : (j.recs.map Cd.strV).length = j.recs.length := by simp
    have hcp := run_copy_row (P := Tryz.prog) w1 46 46 3 9 w.heap.size 0 j.recs.length j.recs.length ⟨g, 0, none⟩ j.recs.length vc cs 9 (j.recs.map Cd.strV) Tryz.underlying46 (by kernel_rfl) h1 (by rw [hxl]; exact (Nat.min_self _).symm) (fun i x hx => by
      rw [Cd.addr_add, Nat.zero_add]; exact hcell i x hx) (by omega) (by
      intro x hx
      obtain ⟨s, _, rfl⟩ := List.mem_map.1 hx
      rfl)
    repeat (any_goals ((with_reducible refine idO ?_); (with_reducible refine oM_gen fun Kv hK=>?_); simp [go_sem, c21, hcp]; refine hK _ _ ?_; clear hK; clear Kv))
    have e1 : cs.toList.drop j.recs.length = [] := List.drop_eq_nil_of_le (by simp; omega)
    rw [e1, List.append_nil]
    have h2 := setRow_heap w1 w.heap.size cs (j.recs.map Cd.strV).toArray 9 (0, 0) h1
    refine k _ _ ⟨by simp, .inr ⟨_, _, _, rfl, Nat.le_refl _, h2, Nat.le_refl _, by unfold maxLen; omega, by simp, by rw [Nat.mul_one, List.take_of_length_le (by simp)]⟩⟩ (hb1.trans (Cd.below_of_grown (grown_setRow _ _ _) hb1.size (fun i hi => by cases hi; exact Nat.le_refl _)))
end
end Go.Proofs
