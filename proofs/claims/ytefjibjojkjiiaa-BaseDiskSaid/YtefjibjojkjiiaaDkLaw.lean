/- DkLaw: a part of the proof of the seat's statements: lemmas about the given translation and plain laws. No condition of its own. -/
import Derived.Test.YtefjibjojkjiiaaDkSpec
set_option linter.all false
/- Plain laws of the disk: no program in sight. -/
namespace DkSpec
/-- a file that is durable as it is, and of which no sector is pending -/
def Firm (f : Int) (s : Bs) (A : Ab) : Prop := A.F f = (s, s) ∧ ∀ p ∈ A.queue, p.1 ≠ f
theorem survF_ne (keep : List Int) (F : Int → Bs × Bs) (i : Nat) (p : Int × Int) (f : Int) (h : p.1 ≠ f) : survF keep F i p f = F f := by
  unfold survF
  split
  · rfl
  · exact setF_ne _ _ _ _ (Ne.symm h)
theorem survAll_ne (keep : List Int) (q : List (Int × Int)) (F : Int → Bs × Bs) (i : Nat) (f : Int) (h : ∀ p ∈ q, p.1 ≠ f) : survAll keep F i q f = F f := by
  induction q generalizing F i with
  | nil => rfl
  | cons p q ih =>
    unfold survAll
    rw [ih _ _ (fun r hr => h r (List.mem_cons_of_mem _ hr)), survF_ne _ _ _ _ _ (h p (List.mem_cons_self ..))]
variable {f : Int} {s : Bs} {A : Ab}
theorem Firm.ends (h : Firm f s A) : Firm f s (endsA A).2 := by
  unfold endsA
  split
  · exact h
  · exact h
theorem Firm.crash (h : Firm f s A) (keep : List Int) : Firm f s (crashA A keep) := by
  unfold crashA
  split
  · exact h
  · refine ⟨?_, fun p hp => absurd hp (by simp)⟩
    show ((survAll keep A.F 0 A.queue f).2, (survAll keep A.F 0 A.queue f).2) = _
    rw [survAll_ne _ _ _ _ _ h.2, h.1]
theorem Firm.comes (h : Firm f s A) : Firm f s (comesA A) := by
  unfold comesA
  split
  · exact h.ends.crash _
  · exact h.ends
theorem Firm.wr (h : Firm f s A) (g at_ : Int) (t : Bs) (hg : g ≠ f) : Firm f s (wrA A g at_ t).2 := by
  unfold wrA
  repeat' split
  · exact h
  · exact h
  · exact h
  · unfold addA
    split
    · exact h
    · refine ⟨?_, ?_⟩
      · show setF A.F g _ f = _
        rw [setF_ne _ _ _ _ (Ne.symm hg)]; exact h.1
      · intro p hp
        rcases (pushQ_mem g _ _ p).1 hp with hp | ⟨h1, _⟩
        · exact h.2 p hp
        · rw [h1]; exact hg
theorem Firm.settle (h : Firm f s A) (g : Int) (t : Bs) (hg : g ≠ f) : Firm f s (settleA A g t) := by
  refine ⟨?_, fun p hp => h.2 p (List.mem_filter.1 hp).1⟩
  show setF A.F g _ f = _
  rw [setF_ne _ _ _ _ (Ne.symm hg)]; exact h.1
theorem Firm.write (h : Firm f s A) (g at_ : Int) (t : Bs) (hg : g ≠ f) : Firm f s (writeA A g at_ t).2 := by
  unfold writeA
  split
  · exact (h.ends.wr g at_ t hg).crash _
  · exact h.ends.wr g at_ t hg
theorem Firm.sync (h : Firm f s A) (g : Int) (hg : g ≠ f) : Firm f s (syncA A g).2 := by
  have h1 := h.comes
  unfold syncA
  repeat' split
  · exact h1
  · exact h1
  · exact h1.settle g _ hg
theorem Firm.trunc (h : Firm f s A) (g n : Int) (hg : g ≠ f) : Firm f s (truncA A g n).2 := by
  have h1 := h.comes
  unfold truncA
  repeat' split
  · exact h1
  · exact h1
  · exact h1.settle g _ hg
theorem endsA_same (A : Ab) : (endsA A).2.F = A.F ∧ (endsA A).2.down = A.down ∧ (endsA A).2.queue = A.queue ∧ (endsA A).2.lost = A.lost ∧ (endsA A).2.keep = A.keep := by
  unfold endsA
  split
  · exact ⟨rfl, rfl, rfl, rfl, rfl⟩
  · exact ⟨rfl, rfl, rfl, rfl, rfl⟩
theorem crashA_down (A : Ab) (keep : List Int) : (crashA A keep).down = true := by
  unfold crashA
  split
  · assumption
  · rfl
theorem comesA_up {A : Ab} (h : (comesA A).down = false) : comesA A = (endsA A).2 ∧ (endsA A).1 = false := by
  unfold comesA at h ⊢
  cases he : (endsA A).1 with
  | true => rw [he] at h; simp [crashA_down] at h
  | false => simp
theorem take_all (s : Bs) (h : s.length ≤ 16777216) : ((s.drop (0 : Int).toNat).take (16777216 : Int).toNat) = s := by
  simp only [Int.toNat_zero, List.drop_zero]
  exact List.take_of_length_le (by omega)
theorem readA_all {A : Ab} (h : WF A) {f : Int} (hm : mayA A f = 0) : readA A f 0 16777216 = ((A.F f).1, 0) := by
  unfold readA
  rw [if_neg (by omega), if_neg (by omega), take_all _ (h.sz f).1]
theorem mayA_up {A : Ab} {f : Int} (h : A.down = false) (hf : 0 ≤ f ∧ f < 16) : mayA A f = 0 := by
  unfold mayA
  rw [h]
  simp only [Bool.false_eq_true, if_false]
  rw [if_neg (by omega)]
/-- a sync that succeeds -/
theorem sync_ok {A : Ab} (hw : WF A) {f : Int} (h : (syncA A f).1 = 0) : 0 ≤ f ∧ f < 16 ∧ (syncA A f).2.down = false ∧ Firm f (A.F f).1 (syncA A f).2 ∧ readA A f 0 16777216 = ((A.F f).1, 0) ∧ readA (syncA A f).2 f 0 16777216 = ((A.F f).1, 0) := by
  have hwf := syncA_wf hw f
  unfold syncA at h hwf ⊢
  by_cases hm : mayA (comesA A) f ≠ 0
  · rw [if_pos hm] at h
    exact absurd h hm
  · rw [if_neg hm] at h hwf ⊢
    have hm0 := Decidable.not_not.1 hm
    have h1 := mayA_ok hm0
    have h2 := (comesA_up h1.1).1
    have h3 := endsA_same A
    by_cases hl : 0 < (comesA A).lost
    · rw [if_pos hl] at h; cases h
    · rw [if_neg hl] at h hwf ⊢
      have hF : (comesA A).F = A.F := by rw [h2]; exact h3.1
      have hd : A.down = false := by
        have := h1.1
        rw [h2, h3.2.1] at this
        exact this
      have hds : (settleA (comesA A) f ((comesA A).F f).1).down = false := h1.1
      have hfi : Firm f (A.F f).1 (settleA (comesA A) f ((comesA A).F f).1) := by
        refine ⟨?_, ?_⟩
        · show setF (comesA A).F f _ f = _
          rw [setF_same, hF]
        · intro p hp
          have := (List.mem_filter.1 hp).2
          simpa using this
      refine ⟨h1.2.1, h1.2.2, hds, hfi, readA_all hw (mayA_up hd h1.2), ?_⟩
      show readA (settleA (comesA A) f ((comesA A).F f).1) f 0 16777216 = _
      rw [readA_all hwf (mayA_up hds h1.2), hfi.1]
end DkSpec
