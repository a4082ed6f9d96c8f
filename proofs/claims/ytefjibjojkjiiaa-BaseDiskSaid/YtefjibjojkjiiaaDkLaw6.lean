/- DkLaw6: a part of the proof of the seat's statements: lemmas about the given translation and plain laws. No condition of its own. -/
import Derived.Test.YtefjibjojkjiiaaDkLaw
set_option linter.all false
/- Plain: a scheduled crash against a crash by hand. -/
namespace DkSpec
/-- the same disk, but for what is scheduled -/
def arm2 (C : Ab) (a : Int) (kl : List Int) : Ab := { C with armed := a, keep := kl }
theorem wrA_arm (C : Ab) (a : Int) (kl : List Int) (f at_ : Int) (s : Bs) : wrA (arm2 C a kl) f at_ s = ((wrA C f at_ s).1, arm2 (wrA C f at_ s).2 a kl) := by
  unfold wrA
  have hm : mayA (arm2 C a kl) f = mayA C f := rfl
  rw [hm]
  split
  · rfl
  · split
    · rfl
    · split
      · rfl
      · unfold addA
        split
        · rfl
        · rfl
theorem crashA_armF (C : Ab) (a : Int) (kl kl' : List Int) : (crashA (arm2 C a kl) kl').F = (crashA C kl').F := by
  unfold crashA
  have : (arm2 C a kl).down = C.down := rfl
  rw [this]
  split
  · rfl
  · rfl
theorem ends_arm (C : Ab) (a : Int) (kl : List Int) (hd : C.down = false) (ha : 1 ≤ a) : endsA (arm2 C a kl) = (decide (a = 1), arm2 C (a - 1) kl) := by
  unfold endsA
  rw [if_neg]
  · rfl
  · rintro (h | h)
    · have : C.down = true := h
      rw [hd] at this; cases this
    · have : a = 0 := h
      omega
theorem ends_no (C : Ab) (ha : C.armed = 0) : endsA C = (false, C) := by
  unfold endsA
  rw [if_pos (.inr ha)]
theorem comes_arm (C : Ab) (a : Int) (kl : List Int) (hd : C.down = false) (ha : 2 ≤ a) : comesA (arm2 C a kl) = arm2 C (a - 1) kl := by
  unfold comesA
  rw [ends_arm C a kl hd (by omega)]
  have : ¬ a = 1 := by omega
  simp [this]
theorem comes_no (C : Ab) (ha : C.armed = 0) : comesA C = C := by
  unfold comesA
  rw [ends_no C ha]
  simp
theorem comes_crash (C : Ab) (kl : List Int) (hd : C.down = false) : comesA (arm2 C 1 kl) = crashA (arm2 C 0 kl) kl := by
  unfold comesA
  rw [ends_arm C 1 kl hd (by omega)]
  rfl
theorem settle_arm (C : Ab) (a : Int) (kl : List Int) (f : Int) (s : Bs) : settleA (arm2 C a kl) f s = arm2 (settleA C f s) a kl := rfl
theorem wrA_keeps (C : Ab) (f at_ : Int) (s : Bs) : (wrA C f at_ s).2.armed = C.armed ∧ (wrA C f at_ s).2.down = C.down := by
  unfold wrA
  repeat' split
  · exact ⟨rfl, rfl⟩
  · exact ⟨rfl, rfl⟩
  · exact ⟨rfl, rfl⟩
  · unfold addA
    split <;> exact ⟨rfl, rfl⟩
variable {C : Ab} {a : Int} {kl : List Int}
theorem write_sim (hd : C.down = false) (hc : C.armed = 0) (ha : 2 ≤ a) (f at_ : Int) (s : Bs) : (writeA (arm2 C a kl) f at_ s).1 = (writeA C f at_ s).1 ∧ (writeA (arm2 C a kl) f at_ s).2 = arm2 (writeA C f at_ s).2 (a - 1) kl ∧ (writeA C f at_ s).2.armed = 0 ∧ (writeA C f at_ s).2.down = false := by
  unfold writeA
  rw [ends_arm C a kl hd (by omega), ends_no C hc]
  have : ¬ a = 1 := by omega
  have hk := wrA_keeps C f at_ s
  simp [this, wrA_arm, hk.1, hk.2, hc, hd]
theorem sync_sim (hd : C.down = false) (hc : C.armed = 0) (ha : 2 ≤ a) (f : Int) : (syncA (arm2 C a kl) f).1 = (syncA C f).1 ∧ (syncA (arm2 C a kl) f).2 = arm2 (syncA C f).2 (a - 1) kl ∧ (syncA C f).2.armed = 0 ∧ (syncA C f).2.down = false := by
  unfold syncA
  rw [comes_arm C a kl hd ha, comes_no C hc]
  have hm : mayA (arm2 C (a - 1) kl) f = mayA C f := rfl
  have hl : (arm2 C (a - 1) kl).lost = C.lost := rfl
  rw [hm, hl]
  split
  · exact ⟨rfl, rfl, hc, hd⟩
  · split
    · exact ⟨rfl, rfl, hc, hd⟩
    · exact ⟨rfl, rfl, hc, hd⟩
theorem trunc_sim (hd : C.down = false) (hc : C.armed = 0) (ha : 2 ≤ a) (f n : Int) : (truncA (arm2 C a kl) f n).1 = (truncA C f n).1 ∧ (truncA (arm2 C a kl) f n).2 = arm2 (truncA C f n).2 (a - 1) kl ∧ (truncA C f n).2.armed = 0 ∧ (truncA C f n).2.down = false := by
  unfold truncA
  rw [comes_arm C a kl hd ha, comes_no C hc]
  have hm : mayA (arm2 C (a - 1) kl) f = mayA C f := rfl
  have hl : (arm2 C (a - 1) kl).F = C.F := rfl
  rw [hm, hl]
  split
  · exact ⟨rfl, rfl, hc, hd⟩
  · split
    · exact ⟨rfl, rfl, hc, hd⟩
    · exact ⟨rfl, rfl, hc, hd⟩
theorem mayA_down {A : Ab} {f : Int} (h : A.down = true) : mayA A f = 8 := by
  unfold mayA; rw [if_pos h]
theorem write_last (hd : C.down = false) (hc : C.armed = 0) (f at_ : Int) (s : Bs) : (writeA (arm2 C 1 kl) f at_ s).1 = 8 ∧ (writeA (arm2 C 1 kl) f at_ s).2.F = (crashA (writeA C f at_ s).2 kl).F ∧ (writeA (arm2 C 1 kl) f at_ s).2.down = true := by
  unfold writeA
  rw [ends_arm C 1 kl hd (by omega), ends_no C hc]
  simp only [decide_true, if_true, Bool.false_eq_true, if_false, wrA_arm]
  refine ⟨trivial, ?_, crashA_down _ _⟩
  show (crashA (arm2 _ _ kl) kl).F = _
  rw [crashA_armF]
theorem sync_last (hd : C.down = false) (f : Int) : (syncA (arm2 C 1 kl) f).1 = 8 ∧ (syncA (arm2 C 1 kl) f).2.F = (crashA C kl).F ∧ (syncA (arm2 C 1 kl) f).2.down = true := by
  unfold syncA
  rw [comes_crash C kl hd, mayA_down (crashA_down _ _), if_pos (by decide)]
  exact ⟨rfl, crashA_armF _ _ _ _, crashA_down _ _⟩
theorem trunc_last (hd : C.down = false) (f n : Int) : (truncA (arm2 C 1 kl) f n).1 = 8 ∧ (truncA (arm2 C 1 kl) f n).2.F = (crashA C kl).F ∧ (truncA (arm2 C 1 kl) f n).2.down = true := by
  unfold truncA
  rw [comes_crash C kl hd, mayA_down (crashA_down _ _), if_pos (by decide)]
  exact ⟨rfl, crashA_armF _ _ _ _, crashA_down _ _⟩
theorem ends_down {A : Ab} (h : A.down = true) : endsA A = (false, A) := by
  unfold endsA; rw [if_pos (.inl h)]
theorem comes_down {A : Ab} (h : A.down = true) : comesA A = A := by
  unfold comesA; rw [ends_down h]; simp
theorem write_down {A : Ab} (h : A.down = true) (f at_ : Int) (s : Bs) : writeA A f at_ s = (8, A) := by
  unfold writeA; rw [ends_down h]
  simp only [Bool.false_eq_true, if_false]
  unfold wrA; rw [mayA_down h, if_pos (by decide)]
theorem sync_down {A : Ab} (h : A.down = true) (f : Int) : syncA A f = (8, A) := by
  unfold syncA; rw [comes_down h, mayA_down h, if_pos (by decide)]
theorem trunc_down {A : Ab} (h : A.down = true) (f n : Int) : truncA A f n = (8, A) := by
  unfold truncA; rw [comes_down h, mayA_down h, if_pos (by decide)]
theorem readA_cong {A B : Ab} (hF : A.F = B.F) (hd : A.down = B.down) (f at_ n : Int) : readA A f at_ n = readA B f at_ n := by
  unfold readA mayA
  rw [hF, hd]
end DkSpec
