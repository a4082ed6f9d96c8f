/- DkLaw4: a part of the proof of the seat's statements: lemmas about the given translation and plain laws. No condition of its own. -/
import Derived.Test.YtefjibjojkjiiaaDkLaw
set_option linter.all false
/- Plain: what of a file survives a crash. -/
namespace DkSpec
theorem getD_take_drop (s : Bs) (a n j : Nat) : ((s.drop a).take n).getD j 0 = if j < n then s.getD (a + j) 0 else 0 := by
  simp only [List.getD_eq_getElem?_getD]
  split
  · rename_i h
    rw [List.getElem?_take_of_lt h, List.getElem?_drop]
  · rename_i h
    rw [List.getElem?_eq_none (by simp only [List.length_take]; omega)]
    rfl
theorem putB_getD (s t : Bs) (a j : Nat) : (putB s a t).getD j 0 = if a ≤ j ∧ j < a + t.length then t.getD (j - a) 0 else s.getD j 0 := by
  unfold putB
  by_cases ht : t = []
  · subst ht
    rw [if_pos rfl, if_neg (by simp)]
  · rw [if_neg ht]
    have hl : (s ++ List.replicate (a + t.length - s.length) 0).length ≥ a + t.length := by simp; omega
    generalize hp : s ++ List.replicate (a + t.length - s.length) (0 : UInt8) = p at *
    have hpj : p.getD j 0 = s.getD j 0 := by
      rw [← hp]
      simp only [List.getD_eq_getElem?_getD]
      by_cases hj : j < s.length
      · rw [List.getElem?_append_left hj]
      · rw [List.getElem?_append_right (by omega), List.getElem?_eq_none (l := s) (by omega)]
        by_cases h2 : j - s.length < a + t.length - s.length
        · rw [List.getElem?_replicate_of_lt h2]; rfl
        · rw [List.getElem?_eq_none (by simp; omega)]
    have hta : (p.take a).length = a := by simp; omega
    have ht2 : (p.take a ++ t).length = a + t.length := by simp; omega
    rw [← hpj]
    simp only [List.getD_eq_getElem?_getD]
    by_cases h1 : j < a
    · rw [if_neg (by omega), List.getElem?_append_left (by rw [ht2]; omega), List.getElem?_append_left (by rw [hta]; exact h1), List.getElem?_take_of_lt h1]
    · by_cases h2 : j < a + t.length
      · rw [if_pos ⟨by omega, h2⟩, List.getElem?_append_left (by rw [ht2]; exact h2), List.getElem?_append_right (by rw [hta]; omega), hta]
      · rw [if_neg (by omega), List.getElem?_append_right (by rw [ht2]; omega), ht2, List.getElem?_drop]
        congr 2
        omega
/-- pending sectors cover what is not durable -/
def GoodF (x : Bs × Bs) (f : Int) (q : List (Int × Int)) : Prop := x.2.length ≤ x.1.length ∧ (∀ j : Nat, j < x.1.length → (f, ((j / 64 : Nat) : Int)) ∉ q → x.1.getD j 0 = x.2.getD j 0) ∧
  (x.2.length < x.1.length → (f, (((x.1.length - 1) / 64 : Nat) : Int)) ∈ q)
def Good (A : Ab) : Prop := ∀ f, GoodF (A.F f) f A.queue
theorem good_eq {A : Ab} {f : Int} {s : Bs} (h : A.F f = (s, s)) : GoodF (A.F f) f A.queue := by
  rw [h]
  exact ⟨Nat.le_refl _, fun _ _ _ => rfl, fun h => absurd h (Nat.lt_irrefl _)⟩
theorem good_new : Good newA := fun f => good_eq (A := newA) (f := f) (s := []) rfl
theorem good_same {A B : Ab} (h : Good A) (hF : B.F = A.F) (hq : B.queue = A.queue) : Good B := by
  intro f; rw [hF, hq]; exact h f
theorem Good.ends {A : Ab} (h : Good A) : Good (endsA A).2 := good_same h (endsA_same A).1 (endsA_same A).2.2.1
theorem Good.crash {A : Ab} (h : Good A) (keep : List Int) : Good (crashA A keep) := by
  unfold crashA
  split
  · exact h
  · intro f
    exact good_eq rfl
theorem Good.comes {A : Ab} (h : Good A) : Good (comesA A) := by
  unfold comesA
  split
  · exact h.ends.crash _
  · exact h.ends
theorem Good.settle {A : Ab} (h : Good A) (g : Int) (s : Bs) : Good (settleA A g s) := by
  intro f
  by_cases hf : f = g
  · subst hf
    exact good_eq (s := s) (setF_same _ _ _)
  · have hF : (settleA A g s).F f = A.F f := setF_ne _ _ _ _ hf
    rw [hF]
    obtain ⟨h1, h2, h3⟩ := h f
    have hm : ∀ n, (f, n) ∈ (settleA A g s).queue ↔ (f, n) ∈ A.queue := by
      intro n
      show (f, n) ∈ A.queue.filter _ ↔ _
      rw [List.mem_filter]
      simp [hf]
    exact ⟨h1, fun j hj hn => h2 j hj (fun hc => hn ((hm _).2 hc)), fun hl => (hm _).2 (h3 hl)⟩
theorem Good.add {A : Ab} (h : Good A) (g : Int) (a : Nat) (s : Bs) : Good (addA A g a s) := by
  unfold addA
  split
  · exact h
  · rename_i hs
    have hl : 0 < s.length := List.length_pos_iff.2 hs
    intro f
    obtain ⟨h1, h2, h3⟩ := h f
    have hmem : ∀ n, (f, n) ∈ pushQ g A.queue (secs a s.length) ↔ (f, n) ∈ A.queue ∨ (f = g ∧ n ∈ secs a s.length) := fun n => pushQ_mem g _ _ (f, n)
    by_cases hf : f = g
    · subst hf
      have hF : setF A.F f (putB (A.F f).1 a s, (A.F f).2) f = (putB (A.F f).1 a s, (A.F f).2) := setF_same _ _ _
      show GoodF (setF A.F f _ f) f (pushQ _ _ _)
      rw [hF]
      unfold GoodF
      simp only
      have hpl := putB_length (A.F f).1 a s
      rw [if_neg hs] at hpl
      refine ⟨by omega, ?_, ?_⟩
      · intro j hj hn
        rw [hmem] at hn
        have hn1 : (f, ((j / 64 : Nat) : Int)) ∉ A.queue := fun hc => hn (.inl hc)
        have hn2 : ¬ (a ≤ j ∧ j < a + s.length) := by
          intro hc
          refine hn (.inr ⟨rfl, (secs_mem _ _ _ hl).2 ?_⟩)
          omega
        rw [putB_getD, if_neg hn2]
        by_cases hj2 : j < (A.F f).1.length
        · exact h2 j hj2 hn1
        · simp only [List.getD_eq_getElem?_getD]
          rw [List.getElem?_eq_none (by omega), List.getElem?_eq_none (by omega)]
      · intro hlt
        rw [hmem]
        by_cases hgrow : (putB (A.F f).1 a s).length = (A.F f).1.length
        · rw [hgrow] at hlt ⊢
          exact .inl (h3 hlt)
        · refine .inr ⟨rfl, (secs_mem _ _ _ hl).2 ?_⟩
          have : (putB (A.F f).1 a s).length = a + s.length := by omega
          rw [this]
          omega
    · have hF : setF A.F g (putB (A.F g).1 a s, (A.F g).2) f = A.F f := setF_ne _ _ _ _ hf
      show GoodF (setF A.F g _ f) f (pushQ _ _ _)
      rw [hF]
      exact ⟨h1, fun j hj hn => h2 j hj (fun hc => hn ((hmem _).2 (.inl hc))), fun hlt => (hmem _).2 (.inl (h3 hlt))⟩
theorem Good.wr {A : Ab} (h : Good A) (f at_ : Int) (s : Bs) : Good (wrA A f at_ s).2 := by
  unfold wrA
  repeat' split
  · exact h
  · exact h
  · exact h
  · exact h.add _ _ _
theorem Good.write {A : Ab} (h : Good A) (f at_ : Int) (s : Bs) : Good (writeA A f at_ s).2 := by
  unfold writeA
  split
  · exact (h.ends.wr f at_ s).crash _
  · exact h.ends.wr f at_ s
theorem Good.sync {A : Ab} (h : Good A) (f : Int) : Good (syncA A f).2 := by
  have h1 := h.comes
  unfold syncA
  repeat' split
  · exact h1
  · exact good_same h1 rfl rfl
  · exact h1.settle _ _
theorem Good.trunc {A : Ab} (h : Good A) (f n : Int) : Good (truncA A f n).2 := by
  have h1 := h.comes
  unfold truncA
  repeat' split
  · exact h1
  · exact h1
  · exact h1.settle _ _
/-! ### what survives -/
/-- some sectors put into the durable part -/
def putAll (now : Bs) (r : Bs) : List Nat → Bs
  | [] => r
  | n :: ns => putAll now (putB r (64 * n) (sector now n)) ns
theorem sector_len (now : Bs) (n : Nat) : (sector now n).length = min 64 (now.length - 64 * n) := by
  unfold sector
  simp only [List.length_take, List.length_drop]
  omega
theorem sector_getD (now : Bs) (n j : Nat) (h : j < 64) : (sector now n).getD j 0 = now.getD (64 * n + j) 0 := by
  unfold sector
  rw [getD_take_drop, if_pos h]
  congr 1
theorem putAll_spec (now : Bs) (ns : List Nat) (last r : Bs) (P : List Nat) (hns : ∀ n ∈ ns, 64 * n < now.length) (h1 : r.length ≤ now.length) (h2 : ∀ j, j < now.length → r.getD j 0 = if j / 64 ∈ P then now.getD j 0 else last.getD j 0) (h3 : last.length ≤ r.length) (h4 : ∀ n ∈ P, min (64 * n + 64) now.length ≤ r.length) :
    (putAll now r ns).length ≤ now.length ∧ (∀ j, j < now.length → (putAll now r ns).getD j 0 = if j / 64 ∈ P ++ ns then now.getD j 0 else last.getD j 0) ∧ last.length ≤ (putAll now r ns).length ∧ ∀ n ∈ P ++ ns, min (64 * n + 64) now.length ≤ (putAll now r ns).length := by
  induction ns generalizing r P with
  | nil => rw [List.append_nil]; exact ⟨h1, h2, h3, h4⟩
  | cons n ns ih =>
    have hn := hns n (List.mem_cons_self ..)
    have hsl := sector_len now n
    have hpl := putB_length r (64 * n) (sector now n)
    rw [if_neg (fun e => by rw [e] at hsl; simp at hsl; omega)] at hpl
    have := ih (putB r (64 * n) (sector now n)) (P ++ [n]) (fun m hm => hns m (List.mem_cons_of_mem _ hm)) (by omega) (by
      intro j hj
      rw [putB_getD, hsl]
      by_cases hjn : j / 64 = n
      · rw [if_pos (by omega), if_pos (by simp [hjn]), sector_getD _ _ _ (by omega)]
        congr 1
        omega
      · rw [if_neg (by omega), h2 j hj]
        have : j / 64 ∈ P ++ [n] ↔ j / 64 ∈ P := by simp [hjn]
        simp only [this]) (by omega) (by
      intro m hm
      rcases List.mem_append.1 hm with hm | hm
      · have := h4 m hm; omega
      · simp only [List.mem_singleton] at hm
        subst hm
        omega)
    rw [List.append_assoc] at this
    exact this
/-- which sectors of a file survive -/
def survL (keep : List Int) (now : Bs) (f : Int) : Nat → List (Int × Int) → List Nat
  | _, [] => []
  | i, p :: q => if p.1 = f ∧ ¬ (keep = [] ∨ keep.getD (i % keep.length) 0 % 2 = 0 ∨ (now.length : Int) ≤ 64 * p.2) then p.2.toNat :: survL keep now f (i + 1) q else survL keep now f (i + 1) q
theorem survAll_putAll (keep : List Int) (q : List (Int × Int)) (F : Int → Bs × Bs) (i : Nat) (f : Int) (hq : ∀ p ∈ q, 0 ≤ p.2) : (survAll keep F i q f).2 = putAll (F f).1 (F f).2 (survL keep (F f).1 f i q) := by
  induction q generalizing F i with
  | nil => rfl
  | cons p q ih =>
    unfold survAll survL
    rw [ih _ _ (fun r hr => hq r (List.mem_cons_of_mem _ hr))]
    have hp := hq p (List.mem_cons_self ..)
    by_cases hf : p.1 = f
    · subst hf
      by_cases hc : keep = [] ∨ keep.getD (i % keep.length) 0 % 2 = 0 ∨ ((F p.1).1.length : Int) ≤ 64 * p.2
      · have : survF keep F i p = F := by unfold survF; rw [if_pos hc]
        rw [this, if_neg (fun h => h.2 hc)]
      · have hs : survF keep F i p = setF F p.1 ((F p.1).1, putB (F p.1).2 (64 * p.2).toNat (sector (F p.1).1 p.2)) := by unfold survF; rw [if_neg hc]
        rw [hs, setF_same, if_pos ⟨rfl, hc⟩]
        obtain ⟨m, hm⟩ := Int.eq_ofNat_of_zero_le hp
        rw [hm]
        simp only [Int.toNat_natCast, putAll]
        rw [show (64 * (m : Int)).toNat = 64 * m by omega]
    · rw [if_neg (fun h => hf h.1)]
      have := survF_ne keep F i p f hf
      rw [this]
theorem survL_lt (keep : List Int) (now : Bs) (f : Int) (q : List (Int × Int)) (i : Nat) (hq : ∀ p ∈ q, 0 ≤ p.2) : ∀ n ∈ survL keep now f i q, 64 * n < now.length := by
  induction q generalizing i with
  | nil => simp [survL]
  | cons p q ih =>
    unfold survL
    have h1 := ih (i + 1) (fun r hr => hq r (List.mem_cons_of_mem _ hr))
    split
    · rename_i hc
      intro n hn
      rcases List.mem_cons.1 hn with rfl | hn
      · have h0 := hq p (List.mem_cons_self ..)
        have : ¬ (now.length : Int) ≤ 64 * p.2 := fun e => hc.2 (.inr (.inr e))
        omega
      · exact h1 n hn
    · exact h1
theorem survL_nil (now : Bs) (f : Int) (q : List (Int × Int)) (i : Nat) : survL [] now f i q = [] := by
  induction q generalizing i with
  | nil => rfl
  | cons p q ih => unfold survL; rw [if_neg (fun h => h.2 (.inl rfl))]; exact ih _
theorem survL_all (now : Bs) (f : Int) (q : List (Int × Int)) (i n : Nat) (hn : 64 * n < now.length) (h : (f, (n : Int)) ∈ q) : n ∈ survL [1] now f i q := by
  induction q generalizing i with
  | nil => simp at h
  | cons p q ih =>
    unfold survL
    rcases List.mem_cons.1 h with rfl | h
    · rw [if_pos]
      · simp
      · refine ⟨rfl, ?_⟩
        rintro (h | h | h)
        · cases h
        · rw [show i % ([1] : List Int).length = 0 from Nat.mod_one i] at h
          simp at h
        · simp only at h; omega
    · split
      · exact List.mem_cons_of_mem _ (ih _ h)
      · exact ih _ h
/-- what a crash leaves of a file -/
theorem surv_spec {A : Ab} (hw : WF A) (hg : Good A) (f : Int) (keep : List Int) : let now := (A.F f).1; let last := (A.F f).2; let r := (survAll keep A.F 0 A.queue f).2
    r.length ≤ now.length ∧ last.length ≤ r.length ∧ (∃ P : List Nat, ∀ j, j < now.length → r.getD j 0 = if j / 64 ∈ P then now.getD j 0 else last.getD j 0) ∧ (keep = [] → r = last) ∧ (keep = [1] → r = now) := by
  intro now last r
  obtain ⟨g1, g2, g3⟩ := hg f
  have hq : ∀ p ∈ A.queue, 0 ≤ p.2 := fun p hp => (hw.qr p hp).2.2.1
  have e := survAll_putAll keep A.queue A.F 0 f hq
  have hlt := survL_lt keep now f A.queue 0 hq
  have hs := putAll_spec now (survL keep now f 0 A.queue) last last [] hlt g1 (fun j _ => by simp) (Nat.le_refl _) (by simp)
  rw [List.nil_append] at hs
  have hr : r = putAll now last (survL keep now f 0 A.queue) := e
  rw [hr]
  refine ⟨hs.1, hs.2.2.1, ⟨_, hs.2.1⟩, ?_, ?_⟩
  · rintro rfl
    rw [survL_nil]; rfl
  · rintro rfl
    have hlen : (putAll now last (survL [1] now f 0 A.queue)).length = now.length := by
      by_cases hl : last.length < now.length
      · have hm := g3 hl
        have := hs.2.2.2 _ (survL_all now f A.queue 0 ((now.length - 1) / 64) (by omega) hm)
        have := hs.1
        omega
      · have := hs.1
        have := hs.2.2.1
        omega
    apply List.ext_getElem hlen
    intro j h1 h2
    have hj := hs.2.1 j h2
    have e1 : (putAll now last (survL [1] now f 0 A.queue)).getD j 0 = (putAll now last (survL [1] now f 0 A.queue))[j] := by simp [List.getD_eq_getElem?_getD, h1]
    have e2 : now.getD j 0 = now[j] := by simp [List.getD_eq_getElem?_getD, h2]
    rw [e1] at hj
    rw [hj, ← e2]
    split
    · rfl
    · rename_i hn
      refine (g2 j h2 (fun hc => hn (survL_all now f A.queue 0 (j / 64) (by omega) hc))).symm
end DkSpec
