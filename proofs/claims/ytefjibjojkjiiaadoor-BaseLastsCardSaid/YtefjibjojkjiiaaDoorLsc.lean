/- Parts of the proof of the seat's statements (DkSpec, DkLaw, DkLaw4, JnLaw, JnLaw2, JnSum, JA, JB, JdkA, JdkB, JdkC, JdkD, JdkE, JdkF, ShMap6, JdkG, JdkH): lemmas about the given translation and plain laws. No condition of their own. -/
import Derived.Test.YtefjibjojkjiiaaDoorLsb
set_option linter.all false
namespace DkSpec
abbrev Bs := List UInt8
def putB (s : Bs) (at_ : Nat) (t : Bs) : Bs :=
  if t = [] then s else (s ++ List.replicate (at_ + t.length - s.length) 0).take at_ ++ t ++ (s ++ List.replicate (at_ + t.length - s.length) 0).drop (at_ + t.length)
structure Ab where
  F : Int → Bs × Bs
  queue : List (Int × Int)
  lost : Int
  down : Bool
  armed : Int
  keep : List Int
def setF (F : Int → Bs × Bs) (f : Int) (x : Bs × Bs) : Int → Bs × Bs := fun g => if g = f then x else F g
def pushQ (f : Int) : List (Int × Int) → List Int → List (Int × Int)
  | q, [] => q
  | q, n :: ns => pushQ f (if (f, n) ∈ q then q else q ++ [(f, n)]) ns
def secs (at_ len : Nat) : List Int := (List.range' (at_ / 64) ((at_ + len - 1) / 64 + 1 - at_ / 64)).map Int.ofNat
def newA : Ab := ⟨fun _ => ([], []), [], 0, false, 0, []⟩
def mayA (A : Ab) (f : Int) : Int := if A.down = true then 8 else if f < 0 ∨ 16 ≤ f then 1 else 0
def addA (A : Ab) (f : Int) (at_ : Nat) (s : Bs) : Ab := if s = [] then A else { A with F := setF A.F f (putB (A.F f).1 at_ s, (A.F f).2), queue := pushQ f A.queue (secs at_ s.length) }
def wrA (A : Ab) (f at_ : Int) (s : Bs) : Int × Ab :=
  if mayA A f ≠ 0 then (mayA A f, A) else if at_ < 0 then (1, A) else if 16777216 < at_ + s.length then (6, A) else (0, addA A f at_.toNat s)
def sector (s : Bs) (n : Int) : Bs := (s.drop (64 * n).toNat).take 64
def survF (keep : List Int) (F : Int → Bs × Bs) (i : Nat) (p : Int × Int) : Int → Bs × Bs :=
  if keep = [] ∨ keep.getD (i % keep.length) 0 % 2 = 0 ∨ ((F p.1).1.length : Int) ≤ 64 * p.2 then F else setF F p.1 ((F p.1).1, putB (F p.1).2 (64 * p.2).toNat (sector (F p.1).1 p.2))
def survAll (keep : List Int) : (Int → Bs × Bs) → Nat → List (Int × Int) → Int → Bs × Bs
  | F, _, [] => F
  | F, i, p :: q => survAll keep (survF keep F i p) (i + 1) q
def crashA (A : Ab) (keep : List Int) : Ab :=
  if A.down = true then A else { A with F := fun f => ((survAll keep A.F 0 A.queue f).2, (survAll keep A.F 0 A.queue f).2), queue := [], down := true, armed := 0 }
def endsA (A : Ab) : Bool × Ab := if A.down = true ∨ A.armed = 0 then (false, A) else (decide (A.armed = 1), { A with armed := A.armed - 1 })
def settleA (A : Ab) (f : Int) (s : Bs) : Ab := { A with F := setF A.F f (s, s), queue := A.queue.filter (fun p => decide (p.1 ≠ f)) }
def comesA (A : Ab) : Ab := if (endsA A).1 = true then crashA (endsA A).2 (endsA A).2.keep else (endsA A).2
def writeA (A : Ab) (f at_ : Int) (s : Bs) : Int × Ab :=
  if (endsA A).1 = true then (8, crashA (wrA (endsA A).2 f at_ s).2 (wrA (endsA A).2 f at_ s).2.keep) else wrA (endsA A).2 f at_ s
def syncA (A : Ab) (f : Int) : Int × Ab :=
  if mayA (comesA A) f ≠ 0 then (mayA (comesA A) f, comesA A) else if 0 < (comesA A).lost then (9, { comesA A with lost := (comesA A).lost - 1 }) else (0, settleA (comesA A) f ((comesA A).F f).1)
def truncA (A : Ab) (f n : Int) : Int × Ab :=
  if mayA (comesA A) f ≠ 0 then (mayA (comesA A) f, comesA A) else if n < 0 ∨ (((comesA A).F f).1.length : Int) < n then (1, comesA A) else (0, settleA (comesA A) f (((comesA A).F f).1.take n.toNat))
def loseA (A : Ab) (n : Int) : Ab := { A with lost := max n 0 }
def armA (A : Ab) (n : Int) (keep : List Int) : Ab := { A with armed := max n 0, keep := keep }
def startA (A : Ab) : Ab := { A with down := false }
def readA (A : Ab) (f at_ size : Int) : Bs × Int :=
  if mayA A f ≠ 0 then ([], mayA A f) else if at_ < 0 ∨ size < 0 then ([], 1) else (((A.F f).1.drop at_.toNat).take size.toNat, 0)
structure WF (A : Ab) : Prop where
  l0 : 0 ≤ A.lost
  l1 : A.lost < 2 ^ 63
  a0 : 0 ≤ A.armed
  a1 : A.armed < 2 ^ 63
  nd : A.queue.Nodup
  qr : ∀ p ∈ A.queue, 0 ≤ p.1 ∧ p.1 < 16 ∧ 0 ≤ p.2 ∧ p.2 < 262144
  sz : ∀ f, (A.F f).1.length ≤ 16777216 ∧ (A.F f).2.length ≤ 16777216
  kr : ∀ x ∈ A.keep, -2 ^ 63 ≤ x ∧ x < 2 ^ 63
  kl : A.keep.length < 2 ^ 62
theorem length_lt (l : List Nat) (n : Nat) (hn : l.Nodup) (h : ∀ x ∈ l, x < n) : l.length ≤ n := by
  induction n generalizing l with
  | zero =>
    cases l with
    | nil => simp
    | cons x l => exact absurd (h x (List.mem_cons_self ..)) (by omega)
  | succ n ih =>
    by_cases hm : n ∈ l
    · have := ih (l.erase n) (hn.erase n) (fun x hx => by
        have h1 := (hn.mem_erase_iff).1 hx
        have := h x h1.2
        have := h1.1
        omega)
      rw [List.length_erase_of_mem hm] at this
      omega
    · have := ih l hn (fun x hx => by
        have := h x hx
        have : x ≠ n := fun e => hm (e ▸ hx)
        omega)
      omega
theorem WF.ql {A : Ab} (h : WF A) : A.queue.length ≤ 4194304 := by
  have hm : (A.queue.map (fun p => (p.1 * 262144 + p.2).toNat)).Nodup := by
    have hq := h.qr
    have hn := h.nd
    generalize A.queue = q at hq hn
    induction q with
    | nil => simp
    | cons p q ih =>
      rw [List.nodup_cons] at hn
      rw [List.map_cons, List.nodup_cons]
      refine ⟨?_, ih (fun x hx => hq x (List.mem_cons_of_mem _ hx)) hn.2⟩
      intro hm
      obtain ⟨x, hx, e⟩ := List.mem_map.1 hm
      have h1 := hq x (List.mem_cons_of_mem _ hx)
      have h2 := hq p (List.mem_cons_self ..)
      have : x = p := by
        obtain ⟨a, b⟩ := x
        obtain ⟨c, d⟩ := p
        simp only [Prod.mk.injEq] at *
        omega
      exact hn.1 (this ▸ hx)
  have := length_lt _ 4194304 hm (fun x hx => by
    obtain ⟨p, hp, rfl⟩ := List.mem_map.1 hx
    have := h.qr p hp
    omega)
  simpa using this
theorem putB_length (s : Bs) (a : Nat) (t : Bs) : (putB s a t).length = if t = [] then s.length else max s.length (a + t.length) := by
  unfold putB
  split
  · rfl
  · simp only [List.length_append, List.length_take, List.length_drop, List.length_replicate]
    omega
theorem pushQ_mem (f : Int) (ns : List Int) (q : List (Int × Int)) (p : Int × Int) : p ∈ pushQ f q ns ↔ p ∈ q ∨ (p.1 = f ∧ p.2 ∈ ns) := by
  induction ns generalizing q with
  | nil => simp [pushQ]
  | cons n ns ih =>
    unfold pushQ
    rw [ih]
    have e : p = (f, n) ↔ p.1 = f ∧ p.2 = n := Prod.ext_iff
    have h1 : p ∈ (if (f, n) ∈ q then q else q ++ [(f, n)]) ↔ p ∈ q ∨ (p.1 = f ∧ p.2 = n) := by
      rw [← e]
      split
      · rename_i hm
        exact ⟨.inl, fun h => h.elim id (fun e => e ▸ hm)⟩
      · rw [List.mem_append, List.mem_singleton]
    rw [h1, List.mem_cons]
    grind
theorem pushQ_nodup (f : Int) (ns : List Int) (q : List (Int × Int)) (h : q.Nodup) : (pushQ f q ns).Nodup := by
  induction ns generalizing q with
  | nil => exact h
  | cons n ns ih =>
    unfold pushQ
    apply ih
    split
    · exact h
    · rename_i hm
      rw [List.nodup_append]
      refine ⟨h, by simp, ?_⟩
      intro a ha b hb
      simp only [List.mem_singleton] at hb
      subst hb
      rintro rfl
      exact hm ha
theorem secs_mem (a len : Nat) (n : Int) (hl : 0 < len) : n ∈ secs a len ↔ 0 ≤ n ∧ (a / 64 : Nat) ≤ n ∧ n ≤ ((a + len - 1) / 64 : Nat) := by
  unfold secs
  simp only [List.mem_map, List.mem_range'_1]
  constructor
  · rintro ⟨k, hk, rfl⟩
    simp only [Int.ofNat_eq_natCast]
    omega
  · rintro ⟨h0, h1, h2⟩
    refine ⟨n.toNat, by omega, ?_⟩
    simp only [Int.ofNat_eq_natCast]
    omega
theorem setF_same (F : Int → Bs × Bs) (f : Int) (x : Bs × Bs) : setF F f x f = x := by simp [setF]
theorem setF_ne (F : Int → Bs × Bs) (f g : Int) (x : Bs × Bs) (h : g ≠ f) : setF F f x g = F g := by simp [setF, h]
theorem newA_wf : WF newA := ⟨by decide, by decide, by decide, by decide, by simp [newA], by simp [newA], by simp [newA], by simp [newA], by simp [newA]⟩
theorem mayA_ok {A : Ab} {f : Int} (h : mayA A f = 0) : A.down = false ∧ 0 ≤ f ∧ f < 16 := by
  unfold mayA at h
  cases hd : A.down with
  | true => rw [hd] at h; simp at h
  | false =>
    rw [hd] at h
    simp only [Bool.false_eq_true, if_false] at h
    split at h
    · cases h
    · exact ⟨rfl, by omega, by omega⟩
theorem addA_wf {A : Ab} (h : WF A) (f : Int) (a : Nat) (s : Bs) (hf : 0 ≤ f ∧ f < 16) (hs : a + s.length ≤ 16777216) : WF (addA A f a s) := by
  unfold addA
  split
  · exact h
  · rename_i hne
    have hl : 0 < s.length := List.length_pos_iff.2 hne
    refine ⟨h.l0, h.l1, h.a0, h.a1, pushQ_nodup f _ _ h.nd, ?_, ?_, h.kr, h.kl⟩
    · intro p hp
      rcases (pushQ_mem f _ _ p).1 hp with hp | ⟨h1, h2⟩
      · exact h.qr p hp
      · rw [secs_mem _ _ _ hl] at h2
        omega
    · intro g
      by_cases hg : g = f
      · subst hg
        show (setF A.F g _ g).1.length ≤ _ ∧ (setF A.F g _ g).2.length ≤ _
        rw [setF_same, putB_length, if_neg hne]
        have := h.sz g
        exact ⟨by show max _ _ ≤ _; omega, this.2⟩
      · show (setF A.F f _ g).1.length ≤ _ ∧ (setF A.F f _ g).2.length ≤ _
        rw [setF_ne _ _ _ _ hg]
        exact h.sz g
theorem endsA_wf {A : Ab} (h : WF A) : WF (endsA A).2 := by
  unfold endsA
  split
  · exact h
  · rename_i hn
    have h0 := h.a0
    have h1 := h.a1
    have : ¬ A.armed = 0 := fun e => hn (.inr e)
    exact ⟨h.l0, h.l1, by show 0 ≤ A.armed - 1; omega, by show A.armed - 1 < _; omega, h.nd, h.qr, h.sz, h.kr, h.kl⟩
theorem survF_sz (keep : List Int) (F : Int → Bs × Bs) (i : Nat) (p : Int × Int) (hp : 0 ≤ p.2) (h : ∀ f, (F f).1.length ≤ 16777216 ∧ (F f).2.length ≤ 16777216) (f : Int) : (survF keep F i p f).1 = (F f).1 ∧ (survF keep F i p f).2.length ≤ 16777216 := by
  unfold survF
  split
  · exact ⟨rfl, (h f).2⟩
  · rename_i hn
    by_cases hf : f = p.1
    · subst hf
      rw [setF_same]
      refine ⟨rfl, ?_⟩
      simp only [putB_length, sector]
      have h1 := h p.1
      have : ¬ ((F p.1).1.length : Int) ≤ 64 * p.2 := fun e => hn (.inr (.inr e))
      split
      · exact h1.2
      · simp only [List.length_take, List.length_drop]
        omega
    · rw [setF_ne _ _ _ _ hf]
      exact ⟨rfl, (h f).2⟩
theorem survAll_sz (keep : List Int) (q : List (Int × Int)) (F : Int → Bs × Bs) (i : Nat) (hq : ∀ p ∈ q, 0 ≤ p.2) (h : ∀ f, (F f).1.length ≤ 16777216 ∧ (F f).2.length ≤ 16777216) (f : Int) : (survAll keep F i q f).1 = (F f).1 ∧ (survAll keep F i q f).2.length ≤ 16777216 := by
  induction q generalizing F i with
  | nil => exact ⟨rfl, (h f).2⟩
  | cons p q ih =>
    unfold survAll
    have h1 := survF_sz keep F i p (hq p (List.mem_cons_self ..)) h
    have := ih (survF keep F i p) (i + 1) (fun x hx => hq x (List.mem_cons_of_mem _ hx)) (fun g => ⟨by rw [(h1 g).1]; exact (h g).1, (h1 g).2⟩)
    exact ⟨by rw [this.1, (h1 f).1], this.2⟩
theorem crashA_wf {A : Ab} (h : WF A) (keep : List Int) : WF (crashA A keep) := by
  unfold crashA
  split
  · exact h
  · refine ⟨h.l0, h.l1, Int.le_refl _, by show (0 : Int) < _; omega, List.nodup_nil, fun p hp => absurd hp (by simp), ?_, h.kr, h.kl⟩
    intro f
    have := survAll_sz keep A.queue A.F 0 (fun p hp => (h.qr p hp).2.2.1) h.sz f
    exact ⟨this.2, this.2⟩
theorem settleA_wf {A : Ab} (h : WF A) (f : Int) (s : Bs) (hs : s.length ≤ 16777216) : WF (settleA A f s) := by
  refine ⟨h.l0, h.l1, h.a0, h.a1, h.nd.filter _, fun p hp => h.qr p (List.mem_filter.1 hp).1, ?_, h.kr, h.kl⟩
  intro g
  show (setF A.F f _ g).1.length ≤ _ ∧ (setF A.F f _ g).2.length ≤ _
  by_cases hg : g = f
  · subst hg; rw [setF_same]; exact ⟨hs, hs⟩
  · rw [setF_ne _ _ _ _ hg]; exact h.sz g
theorem comesA_wf {A : Ab} (h : WF A) : WF (comesA A) := by
  unfold comesA
  split
  · exact crashA_wf (endsA_wf h) _
  · exact endsA_wf h
theorem syncA_wf {A : Ab} (h : WF A) (f : Int) : WF (syncA A f).2 := by
  have h1 := comesA_wf h
  unfold syncA
  split
  · exact h1
  · split
    · rename_i hl
      have := h1.l1
      exact ⟨by show 0 ≤ (comesA A).lost - 1; omega, by show (comesA A).lost - 1 < _; omega, h1.a0, h1.a1, h1.nd, h1.qr, h1.sz, h1.kr, h1.kl⟩
    · exact settleA_wf h1 f _ (h1.sz f).1
theorem truncA_wf {A : Ab} (h : WF A) (f n : Int) : WF (truncA A f n).2 := by
  have h1 := comesA_wf h
  unfold truncA
  split
  · exact h1
  · split
    · exact h1
    · refine settleA_wf h1 f _ ?_
      have := (h1.sz f).1
      simp only [List.length_take]
      omega
theorem loseA_wf {A : Ab} (h : WF A) (n : Int) (hn : n < 2 ^ 63) : WF (loseA A n) :=
  ⟨by show 0 ≤ max n 0; omega, by show max n 0 < _; omega, h.a0, h.a1, h.nd, h.qr, h.sz, h.kr, h.kl⟩
theorem armA_wf {A : Ab} (h : WF A) (n : Int) (hn : n < 2 ^ 63) (keep : List Int) (hk : ∀ x ∈ keep, -2 ^ 63 ≤ x ∧ x < 2 ^ 63) (hl : keep.length < 2 ^ 62) : WF (armA A n keep) :=
  ⟨h.l0, h.l1, by show 0 ≤ max n 0; omega, by show max n 0 < _; omega, h.nd, h.qr, h.sz, hk, hl⟩
theorem startA_wf {A : Ab} (h : WF A) : WF (startA A) := ⟨h.l0, h.l1, h.a0, h.a1, h.nd, h.qr, h.sz, h.kr, h.kl⟩
end DkSpec
namespace DkSpec
def Firm (f : Int) (s : Bs) (A : Ab) : Prop := A.F f = (s, s) ∧ ∀ p ∈ A.queue, p.1 ≠ f
theorem survF_ne (keep : List Int) (F : Int → Bs × Bs) (i : Nat) (p : Int × Int) (f : Int) (h : p.1 ≠ f) : survF keep F i p f = F f := by
  unfold survF
  split
  · rfl
  · exact setF_ne _ _ _ _ (Ne.symm h)
theorem survAll_ne (keep : List Int) (q : List (Int × Int)) (F : Int → Bs × Bs) (i : Nat) (f : Int) (h : ∀ p ∈ q, p.1 ≠ f) : survAll keep F i q f = F f := by
  induction q generalizing F i with
  | nil => rfl
  | cons p q ih =>
    unfold survAll
    rw [ih _ _ (fun r hr => h r (List.mem_cons_of_mem _ hr)), survF_ne _ _ _ _ _ (h p (List.mem_cons_self ..))]
variable {f : Int} {s : Bs} {A : Ab}
theorem Firm.ends (h : Firm f s A) : Firm f s (endsA A).2 := by
  unfold endsA
  split
  · exact h
  · exact h
theorem Firm.crash (h : Firm f s A) (keep : List Int) : Firm f s (crashA A keep) := by
  unfold crashA
  split
  · exact h
  · refine ⟨?_, fun p hp => absurd hp (by simp)⟩
    show ((survAll keep A.F 0 A.queue f).2, (survAll keep A.F 0 A.queue f).2) = _
    rw [survAll_ne _ _ _ _ _ h.2, h.1]
theorem Firm.comes (h : Firm f s A) : Firm f s (comesA A) := by
  unfold comesA
  split
  · exact h.ends.crash _
  · exact h.ends
theorem Firm.wr (h : Firm f s A) (g at_ : Int) (t : Bs) (hg : g ≠ f) : Firm f s (wrA A g at_ t).2 := by
  unfold wrA
  repeat' split
  · exact h
  · exact h
  · exact h
  · unfold addA
    split
    · exact h
    · refine ⟨?_, ?_⟩
      · show setF A.F g _ f = _
        rw [setF_ne _ _ _ _ (Ne.symm hg)]; exact h.1
      · intro p hp
        rcases (pushQ_mem g _ _ p).1 hp with hp | ⟨h1, _⟩
        · exact h.2 p hp
        · rw [h1]; exact hg
theorem Firm.settle (h : Firm f s A) (g : Int) (t : Bs) (hg : g ≠ f) : Firm f s (settleA A g t) := by
  refine ⟨?_, fun p hp => h.2 p (List.mem_filter.1 hp).1⟩
  show setF A.F g _ f = _
  rw [setF_ne _ _ _ _ (Ne.symm hg)]; exact h.1
theorem Firm.write (h : Firm f s A) (g at_ : Int) (t : Bs) (hg : g ≠ f) : Firm f s (writeA A g at_ t).2 := by
  unfold writeA
  split
  · exact (h.ends.wr g at_ t hg).crash _
  · exact h.ends.wr g at_ t hg
theorem Firm.sync (h : Firm f s A) (g : Int) (hg : g ≠ f) : Firm f s (syncA A g).2 := by
  have h1 := h.comes
  unfold syncA
  repeat' split
  · exact h1
  · exact h1
  · exact h1.settle g _ hg
theorem endsA_same (A : Ab) : (endsA A).2.F = A.F ∧ (endsA A).2.down = A.down ∧ (endsA A).2.queue = A.queue ∧ (endsA A).2.lost = A.lost ∧ (endsA A).2.keep = A.keep := by
  unfold endsA
  split
  · exact ⟨rfl, rfl, rfl, rfl, rfl⟩
  · exact ⟨rfl, rfl, rfl, rfl, rfl⟩
theorem crashA_down (A : Ab) (keep : List Int) : (crashA A keep).down = true := by
  unfold crashA
  split
  · assumption
  · rfl
theorem comesA_up {A : Ab} (h : (comesA A).down = false) : comesA A = (endsA A).2 ∧ (endsA A).1 = false := by
  unfold comesA at h ⊢
  cases he : (endsA A).1 with
  | true => rw [he] at h; simp [crashA_down] at h
  | false => simp
theorem take_all (s : Bs) (h : s.length ≤ 16777216) : ((s.drop (0 : Int).toNat).take (16777216 : Int).toNat) = s := by
  simp only [Int.toNat_zero, List.drop_zero]
  exact List.take_of_length_le (by omega)
theorem readA_all {A : Ab} (h : WF A) {f : Int} (hm : mayA A f = 0) : readA A f 0 16777216 = ((A.F f).1, 0) := by
  unfold readA
  rw [if_neg (by omega), if_neg (by omega), take_all _ (h.sz f).1]
theorem mayA_up {A : Ab} {f : Int} (h : A.down = false) (hf : 0 ≤ f ∧ f < 16) : mayA A f = 0 := by
  unfold mayA
  rw [h]
  simp only [Bool.false_eq_true, if_false]
  rw [if_neg (by omega)]
theorem sync_ok {A : Ab} (hw : WF A) {f : Int} (h : (syncA A f).1 = 0) : 0 ≤ f ∧ f < 16 ∧ (syncA A f).2.down = false ∧ Firm f (A.F f).1 (syncA A f).2 ∧ readA A f 0 16777216 = ((A.F f).1, 0) ∧ readA (syncA A f).2 f 0 16777216 = ((A.F f).1, 0) := by
  have hwf := syncA_wf hw f
  unfold syncA at h hwf ⊢
  by_cases hm : mayA (comesA A) f ≠ 0
  · rw [if_pos hm] at h
    exact absurd h hm
  · rw [if_neg hm] at h hwf ⊢
    have hm0 := Decidable.not_not.1 hm
    have h1 := mayA_ok hm0
    have h2 := (comesA_up h1.1).1
    have h3 := endsA_same A
    by_cases hl : 0 < (comesA A).lost
    · rw [if_pos hl] at h; cases h
    · rw [if_neg hl] at h hwf ⊢
      have hF : (comesA A).F = A.F := by rw [h2]; exact h3.1
      have hd : A.down = false := by
        have := h1.1
        rw [h2, h3.2.1] at this
        exact this
      have hds : (settleA (comesA A) f ((comesA A).F f).1).down = false := h1.1
      have hfi : Firm f (A.F f).1 (settleA (comesA A) f ((comesA A).F f).1) := by
        refine ⟨?_, ?_⟩
        · show setF (comesA A).F f _ f = _
          rw [setF_same, hF]
        · intro p hp
          have := (List.mem_filter.1 hp).2
          simpa using this
      refine ⟨h1.2.1, h1.2.2, hds, hfi, readA_all hw (mayA_up hd h1.2), ?_⟩
      show readA (settleA (comesA A) f ((comesA A).F f).1) f 0 16777216 = _
      rw [readA_all hwf (mayA_up hds h1.2), hfi.1]
end DkSpec
namespace DkSpec
theorem getD_take_drop (s : Bs) (a n j : Nat) : ((s.drop a).take n).getD j 0 = if j < n then s.getD (a + j) 0 else 0 := by
  simp only [List.getD_eq_getElem?_getD]
  split
  · rename_i h
    rw [List.getElem?_take_of_lt h, List.getElem?_drop]
  · rename_i h
    rw [List.getElem?_eq_none (by simp only [List.length_take]; omega)]
    rfl
theorem putB_getD (s t : Bs) (a j : Nat) : (putB s a t).getD j 0 = if a ≤ j ∧ j < a + t.length then t.getD (j - a) 0 else s.getD j 0 := by
  unfold putB
  by_cases ht : t = []
  · subst ht
    rw [if_pos rfl, if_neg (by simp)]
  · rw [if_neg ht]
    have hl : (s ++ List.replicate (a + t.length - s.length) 0).length ≥ a + t.length := by simp; omega
    generalize hp : s ++ List.replicate (a + t.length - s.length) (0 : UInt8) = p at *
    have hpj : p.getD j 0 = s.getD j 0 := by
      rw [← hp]
      simp only [List.getD_eq_getElem?_getD]
      by_cases hj : j < s.length
      · rw [List.getElem?_append_left hj]
      · rw [List.getElem?_append_right (by omega), List.getElem?_eq_none (l := s) (by omega)]
        by_cases h2 : j - s.length < a + t.length - s.length
        · rw [List.getElem?_replicate_of_lt h2]; rfl
        · rw [List.getElem?_eq_none (by simp; omega)]
    have hta : (p.take a).length = a := by simp; omega
    have ht2 : (p.take a ++ t).length = a + t.length := by simp; omega
    rw [← hpj]
    simp only [List.getD_eq_getElem?_getD]
    by_cases h1 : j < a
    · rw [if_neg (by omega), List.getElem?_append_left (by rw [ht2]; omega), List.getElem?_append_left (by rw [hta]; exact h1), List.getElem?_take_of_lt h1]
    · by_cases h2 : j < a + t.length
      · rw [if_pos ⟨by omega, h2⟩, List.getElem?_append_left (by rw [ht2]; exact h2), List.getElem?_append_right (by rw [hta]; omega), hta]
      · rw [if_neg (by omega), List.getElem?_append_right (by rw [ht2]; omega), ht2, List.getElem?_drop]
        congr 2
        omega
def GoodF (x : Bs × Bs) (f : Int) (q : List (Int × Int)) : Prop := x.2.length ≤ x.1.length ∧ (∀ j : Nat, j < x.1.length → (f, ((j / 64 : Nat) : Int)) ∉ q → x.1.getD j 0 = x.2.getD j 0) ∧
  (x.2.length < x.1.length → (f, (((x.1.length - 1) / 64 : Nat) : Int)) ∈ q)
def Good (A : Ab) : Prop := ∀ f, GoodF (A.F f) f A.queue
theorem good_eq {A : Ab} {f : Int} {s : Bs} (h : A.F f = (s, s)) : GoodF (A.F f) f A.queue := by
  rw [h]
  exact ⟨Nat.le_refl _, fun _ _ _ => rfl, fun h => absurd h (Nat.lt_irrefl _)⟩
theorem good_same {A B : Ab} (h : Good A) (hF : B.F = A.F) (hq : B.queue = A.queue) : Good B := by
  intro f; rw [hF, hq]; exact h f
theorem Good.ends {A : Ab} (h : Good A) : Good (endsA A).2 := good_same h (endsA_same A).1 (endsA_same A).2.2.1
theorem Good.crash {A : Ab} (h : Good A) (keep : List Int) : Good (crashA A keep) := by
  unfold crashA
  split
  · exact h
  · intro f
    exact good_eq rfl
theorem Good.comes {A : Ab} (h : Good A) : Good (comesA A) := by
  unfold comesA
  split
  · exact h.ends.crash _
  · exact h.ends
theorem Good.settle {A : Ab} (h : Good A) (g : Int) (s : Bs) : Good (settleA A g s) := by
  intro f
  by_cases hf : f = g
  · subst hf
    exact good_eq (s := s) (setF_same _ _ _)
  · have hF : (settleA A g s).F f = A.F f := setF_ne _ _ _ _ hf
    rw [hF]
    obtain ⟨h1, h2, h3⟩ := h f
    have hm : ∀ n, (f, n) ∈ (settleA A g s).queue ↔ (f, n) ∈ A.queue := by
      intro n
      show (f, n) ∈ A.queue.filter _ ↔ _
      rw [List.mem_filter]
      simp [hf]
    exact ⟨h1, fun j hj hn => h2 j hj (fun hc => hn ((hm _).2 hc)), fun hl => (hm _).2 (h3 hl)⟩
theorem Good.add {A : Ab} (h : Good A) (g : Int) (a : Nat) (s : Bs) : Good (addA A g a s) := by
  unfold addA
  split
  · exact h
  · rename_i hs
    have hl : 0 < s.length := List.length_pos_iff.2 hs
    intro f
    obtain ⟨h1, h2, h3⟩ := h f
    have hmem : ∀ n, (f, n) ∈ pushQ g A.queue (secs a s.length) ↔ (f, n) ∈ A.queue ∨ (f = g ∧ n ∈ secs a s.length) := fun n => pushQ_mem g _ _ (f, n)
    by_cases hf : f = g
    · subst hf
      have hF : setF A.F f (putB (A.F f).1 a s, (A.F f).2) f = (putB (A.F f).1 a s, (A.F f).2) := setF_same _ _ _
      show GoodF (setF A.F f _ f) f (pushQ _ _ _)
      rw [hF]
      unfold GoodF
      simp only
      have hpl := putB_length (A.F f).1 a s
      rw [if_neg hs] at hpl
      refine ⟨by omega, ?_, ?_⟩
      · intro j hj hn
        rw [hmem] at hn
        have hn1 : (f, ((j / 64 : Nat) : Int)) ∉ A.queue := fun hc => hn (.inl hc)
        have hn2 : ¬ (a ≤ j ∧ j < a + s.length) := by
          intro hc
          refine hn (.inr ⟨rfl, (secs_mem _ _ _ hl).2 ?_⟩)
          omega
        rw [putB_getD, if_neg hn2]
        by_cases hj2 : j < (A.F f).1.length
        · exact h2 j hj2 hn1
        · simp only [List.getD_eq_getElem?_getD]
          rw [List.getElem?_eq_none (by omega), List.getElem?_eq_none (by omega)]
      · intro hlt
        rw [hmem]
        by_cases hgrow : (putB (A.F f).1 a s).length = (A.F f).1.length
        · rw [hgrow] at hlt ⊢
          exact .inl (h3 hlt)
        · refine .inr ⟨rfl, (secs_mem _ _ _ hl).2 ?_⟩
          have : (putB (A.F f).1 a s).length = a + s.length := by omega
          rw [this]
          omega
    · have hF : setF A.F g (putB (A.F g).1 a s, (A.F g).2) f = A.F f := setF_ne _ _ _ _ hf
      show GoodF (setF A.F g _ f) f (pushQ _ _ _)
      rw [hF]
      exact ⟨h1, fun j hj hn => h2 j hj (fun hc => hn ((hmem _).2 (.inl hc))), fun hlt => (hmem _).2 (.inl (h3 hlt))⟩
theorem Good.wr {A : Ab} (h : Good A) (f at_ : Int) (s : Bs) : Good (wrA A f at_ s).2 := by
  unfold wrA
  repeat' split
  · exact h
  · exact h
  · exact h
  · exact h.add _ _ _
theorem Good.write {A : Ab} (h : Good A) (f at_ : Int) (s : Bs) : Good (writeA A f at_ s).2 := by
  unfold writeA
  split
  · exact (h.ends.wr f at_ s).crash _
  · exact h.ends.wr f at_ s
theorem Good.sync {A : Ab} (h : Good A) (f : Int) : Good (syncA A f).2 := by
  have h1 := h.comes
  unfold syncA
  repeat' split
  · exact h1
  · exact good_same h1 rfl rfl
  · exact h1.settle _ _
def putAll (now : Bs) (r : Bs) : List Nat → Bs
  | [] => r
  | n :: ns => putAll now (putB r (64 * n) (sector now n)) ns
theorem sector_len (now : Bs) (n : Nat) : (sector now n).length = min 64 (now.length - 64 * n) := by
  unfold sector
  simp only [List.length_take, List.length_drop]
  omega
theorem sector_getD (now : Bs) (n j : Nat) (h : j < 64) : (sector now n).getD j 0 = now.getD (64 * n + j) 0 := by
  unfold sector
  rw [getD_take_drop, if_pos h]
  congr 1
def survL (keep : List Int) (now : Bs) (f : Int) : Nat → List (Int × Int) → List Nat
  | _, [] => []
  | i, p :: q => if p.1 = f ∧ ¬ (keep = [] ∨ keep.getD (i % keep.length) 0 % 2 = 0 ∨ (now.length : Int) ≤ 64 * p.2) then p.2.toNat :: survL keep now f (i + 1) q else survL keep now f (i + 1) q
theorem survAll_putAll (keep : List Int) (q : List (Int × Int)) (F : Int → Bs × Bs) (i : Nat) (f : Int) (hq : ∀ p ∈ q, 0 ≤ p.2) : (survAll keep F i q f).2 = putAll (F f).1 (F f).2 (survL keep (F f).1 f i q) := by
  induction q generalizing F i with
  | nil => rfl
  | cons p q ih =>
    unfold survAll survL
    rw [ih _ _ (fun r hr => hq r (List.mem_cons_of_mem _ hr))]
    have hp := hq p (List.mem_cons_self ..)
    by_cases hf : p.1 = f
    · subst hf
      by_cases hc : keep = [] ∨ keep.getD (i % keep.length) 0 % 2 = 0 ∨ ((F p.1).1.length : Int) ≤ 64 * p.2
      · have : survF keep F i p = F := by unfold survF; rw [if_pos hc]
        rw [this, if_neg (fun h => h.2 hc)]
      · have hs : survF keep F i p = setF F p.1 ((F p.1).1, putB (F p.1).2 (64 * p.2).toNat (sector (F p.1).1 p.2)) := by unfold survF; rw [if_neg hc]
        rw [hs, setF_same, if_pos ⟨rfl, hc⟩]
        obtain ⟨m, hm⟩ := Int.eq_ofNat_of_zero_le hp
        rw [hm]
        simp only [Int.toNat_natCast, putAll]
        rw [show (64 * (m : Int)).toNat = 64 * m by omega]
    · rw [if_neg (fun h => hf h.1)]
      have := survF_ne keep F i p f hf
      rw [this]
end DkSpec
namespace JnSpec
open CodeSpec DkSpec
theorem Dm.iff : ∀ {x y : Bytes}, Dm x y ↔ y.length ≤ x.length ∧ ∀ i : Nat, y.getD i 0 = x.getD i 0 ∨ y.getD i 0 = 0
  | x, [] => by simp [Dm]
  | [], b :: y => by simp [Dm]
  | a :: x, b :: y => by
    unfold Dm
    rw [Dm.iff (x := x) (y := y)]
    constructor
    · rintro ⟨h1, h2, h3⟩
      refine ⟨by simp only [List.length_cons]; omega, fun i => ?_⟩
      cases i with
      | zero => simpa using h1
      | succ i => simpa using h3 i
    · rintro ⟨h1, h2⟩
      refine ⟨by simpa using h2 0, by simpa using h1, fun i => by simpa using h2 (i + 1)⟩
theorem pre_iff : ∀ {p z : Bytes}, p <+: z ↔ p.length ≤ z.length ∧ ∀ i : Nat, i < p.length → z.getD i 0 = p.getD i 0
  | [], z => by simp
  | a :: p, [] => by simp
  | a :: p, b :: z => by
    rw [List.cons_prefix_cons, pre_iff (p := p) (z := z)]
    constructor
    · rintro ⟨h1, h2, h3⟩
      refine ⟨by simp only [List.length_cons]; omega, fun i hi => ?_⟩
      cases i with
      | zero => simpa using h1.symm
      | succ i => simpa using h3 i (by simpa using hi)
    · rintro ⟨h1, h2⟩
      refine ⟨by simpa using (h2 0 (by simp)).symm, by simpa using h1, fun i hi => by simpa using h2 (i + 1) (by simpa using hi)⟩
def Ok (all sure : List Bs) (z : Bs) : Prop := Dm (formL all) z ∧ formL sure <+: z
variable {all sure : List Bs} {f : Int} {A : Ab}
theorem Ok.put {x y : Bs} (hx : Ok all sure x) (hy : Ok all sure y) (n : Nat) : Ok all sure (putB y (64 * n) (sector x n)) := by
  have hl := sector_len x n
  have hp := putB_length y (64 * n) (sector x n)
  obtain ⟨x1, x2⟩ := hx
  obtain ⟨y1, y2⟩ := hy
  rw [Dm.iff] at x1 y1
  rw [pre_iff] at x2 y2
  have hle : (putB y (64 * n) (sector x n)).length ≤ max y.length x.length ∧ y.length ≤ (putB y (64 * n) (sector x n)).length := by
    split at hp
    · omega
    · rename_i hne
      have := List.length_pos_iff.2 hne
      omega
  have hg : ∀ i, (putB y (64 * n) (sector x n)).getD i 0 = y.getD i 0 ∨ (i < x.length ∧ (putB y (64 * n) (sector x n)).getD i 0 = x.getD i 0) := fun i => by
    rw [putB_getD]
    split
    · rename_i h
      right
      rw [sector_getD _ _ _ (by omega)]
      have e : 64 * n + (i - 64 * n) = i := by omega
      rw [e]
      exact ⟨by omega, rfl⟩
    · exact .inl rfl
  constructor
  · rw [Dm.iff]
    refine ⟨by omega, fun i => ?_⟩
    rcases hg i with h | ⟨_, h⟩ <;> rw [h]
    · exact y1.2 i
    · exact x1.2 i
  · rw [pre_iff]
    refine ⟨by omega, fun i hi => ?_⟩
    rcases hg i with h | ⟨_, h⟩ <;> rw [h]
    · exact y2.2 i hi
    · exact x2.2 i hi
theorem Ok.putAll {x : Bs} (hx : Ok all sure x) : ∀ (ns : List Nat) {y : Bs}, Ok all sure y → Ok all sure (putAll x y ns)
  | [], _, hy => hy
  | n :: ns, _, hy => Ok.putAll hx ns (hx.put hy n)
structure GoodJ (f : Int) (A : Ab) (all sure : List Bs) : Prop where
  wf : WF A
  few : Few all
  sub : sure <+: all
  x : Ok all sure (A.F f).1
  y : Ok all sure (A.F f).2
theorem Few.sub {l m : List Bs} (h : Few m) (hs : l <+: m) : Few l := fun t ht => h t (hs.subset ht)
theorem GoodJ.same (h : GoodJ f A all sure) {B : Ab} (hw : WF B) (hF : B.F f = A.F f) : GoodJ f B all sure := ⟨hw, h.few, h.sub, by rw [hF]; exact h.x, by rw [hF]; exact h.y⟩
theorem GoodJ.crash (h : GoodJ f A all sure) (keep : List Int) : GoodJ f (crashA A keep) all sure := by
  have hw := crashA_wf h.wf keep
  unfold crashA at hw ⊢
  split
  · exact h
  · have : Ok all sure (survAll keep A.F 0 A.queue f).2 := by
      rw [survAll_putAll keep A.queue A.F 0 f (fun p hp => (h.wf.qr p hp).2.2.1)]
      exact h.x.putAll _ h.y
    rename_i hd
    rw [if_neg hd] at hw
    exact ⟨hw, h.few, h.sub, this, this⟩
theorem GoodJ.ends (h : GoodJ f A all sure) : GoodJ f (endsA A).2 all sure := h.same (endsA_wf h.wf) (by rw [(endsA_same A).1])
theorem GoodJ.comes (h : GoodJ f A all sure) : GoodJ f (comesA A) all sure := by
  unfold comesA
  split
  · exact h.ends.crash _
  · exact h.ends
theorem GoodJ.settle (h : GoodJ f A all sure) {s : Bs} (hs : Ok all sure s) (hl : s.length ≤ 16777216) : GoodJ f (settleA A f s) all sure := by
  have e : (settleA A f s).F f = (s, s) := setF_same _ _ _
  exact ⟨settleA_wf h.wf f s hl, h.few, h.sub, by rw [e]; exact hs, by rw [e]; exact hs⟩
theorem GoodJ.sync (h : GoodJ f A all sure) : GoodJ f (syncA A f).2 all sure := by
  have h1 := h.comes
  have hw := syncA_wf h.wf f
  unfold syncA at hw ⊢
  split
  · exact h1
  · rename_i hm
    rw [if_neg hm] at hw
    split
    · rename_i hl
      rw [if_pos hl] at hw
      exact h1.same hw rfl
    · exact h1.settle h1.x (h1.wf.sz f).1
theorem Ok.more {z : Bs} (h : Ok all sure z) (t : Bs) : Ok (all ++ [t]) sure z := by
  refine ⟨?_, h.2⟩
  have h1 := h.1
  rw [Dm.iff] at h1 ⊢
  rw [formL_append, List.length_append]
  refine ⟨by omega, fun i => ?_⟩
  by_cases hi : i < (formL all).length
  · have : (formL all ++ formL [t]).getD i 0 = (formL all).getD i 0 := by
      simp only [List.getD_eq_getElem?_getD]
      rw [List.getElem?_append_left hi]
    rw [this]; exact h1.2 i
  · right
    simp only [List.getD_eq_getElem?_getD]
    rw [List.getElem?_eq_none (by omega)]
    rfl
theorem GoodJ.more (h : GoodJ f A all sure) {t : Bs} (ht : t.length ≤ 20000) : GoodJ f A (all ++ [t]) sure :=
  ⟨h.wf, fun x hx => by
    rcases List.mem_append.1 hx with hx | hx
    · exact h.few x hx
    · simp only [List.mem_singleton] at hx
      rw [hx]; exact ht, h.sub.trans (List.prefix_append _ _), h.x.more t, h.y.more t⟩
theorem Ok.own {l sure : List Bs} (hs : sure <+: l) : Ok l sure (formL l) := by
  refine ⟨Dm.refl _, ?_⟩
  obtain ⟨m, rfl⟩ := hs
  rw [formL_append]
  exact List.prefix_append _ _
structure Jn where
  recs : List Bs
  bytes : Nat
  broken : Bool
def openB (B : Ab) (f : Int) (r : Bs × Int) : Option Jn × Int × Ab :=
  if r.2 ≠ 0 then (none, r.2, B)
  else if (readJ r.1).2 < r.1.length then
    if (truncA B f (readJ r.1).2).1 ≠ 0 then (none, (truncA B f (readJ r.1).2).1, (truncA B f (readJ r.1).2).2)
    else (some ⟨(readJ r.1).1, (readJ r.1).2, false⟩, 0, (truncA B f (readJ r.1).2).2)
  else (some ⟨(readJ r.1).1, (readJ r.1).2, false⟩, 0, B)
def openJ (A : Ab) (f : Int) : Option Jn × Int × Ab :=
  if f < 0 ∨ 15 < f then (none, 1, A)
  else if (syncA A f).1 ≠ 0 then (none, (syncA A f).1, (syncA A f).2)
  else openB (syncA A f).2 f (readA (syncA A f).2 f 0 (((syncA A f).2.F f).1.length : Nat))
def appendJ (A : Ab) (f : Int) (j : Jn) (t : Bs) : Int × Ab × Jn :=
  if j.broken = true then (7, A, j)
  else if 20000 < t.length then (3, A, j)
  else if 1048576 < j.bytes + (form t).length then (6, A, j)
  else if (writeA A f j.bytes (form t)).1 ≠ 0 then ((writeA A f j.bytes (form t)).1, (writeA A f j.bytes (form t)).2, { j with broken := true })
  else (0, (writeA A f j.bytes (form t)).2, ⟨j.recs ++ [t], j.bytes + (form t).length, false⟩)
def syncJ (A : Ab) (f : Int) (j : Jn) : Int × Ab × Jn :=
  if j.broken = true then (7, A, j) else ((syncA A f).1, (syncA A f).2, { j with broken := decide ((syncA A f).1 ≠ 0) })
theorem mayA_val (A : Ab) {f : Int} (hf : 0 ≤ f ∧ f ≤ 15) : mayA A f = 0 ∨ mayA A f = 8 := by
  unfold mayA
  split
  · exact .inr rfl
  · rw [if_neg (by omega)]; exact .inl rfl
theorem sync_val (A : Ab) {f : Int} (hf : 0 ≤ f ∧ f ≤ 15) : (syncA A f).1 = 0 ∨ (syncA A f).1 = 8 ∨ (syncA A f).1 = 9 := by
  unfold syncA
  split
  · rcases mayA_val (comesA A) hf with h | h
    · exact .inl h
    · exact .inr (.inl h)
  · split
    · exact .inr (.inr rfl)
    · exact .inl rfl
theorem read_all {A : Ab} (hd : A.down = false) {f : Int} (hf : 0 ≤ f ∧ f ≤ 15) : readA A f 0 (((A.F f).1.length : Nat) : Int) = ((A.F f).1, 0) := by
  unfold readA
  rw [if_neg (by rw [mayA_up hd (by omega)]; simp), if_neg (by omega)]
  simp
theorem trunc_val {A : Ab} {f : Int} {n : Nat} (hf : 0 ≤ f ∧ f ≤ 15) (hn : n ≤ (A.F f).1.length) :
    ((truncA A f n).1 = 8 ∧ (truncA A f n).2 = comesA A) ∨ ((truncA A f n).1 = 0 ∧ A.down = false ∧ (truncA A f n).2 = settleA (endsA A).2 f ((A.F f).1.take n)) := by
  unfold truncA
  split
  · rename_i hm
    rcases mayA_val (comesA A) hf with h | h
    · exact absurd h hm
    · exact .inl ⟨h, rfl⟩
  · rename_i hm
    have h1 := mayA_ok (Decidable.not_not.1 hm)
    have h2 := (comesA_up h1.1).1
    have h3 := endsA_same A
    have hF : (comesA A).F = A.F := by rw [h2]; exact h3.1
    rw [hF, if_neg (by omega)]
    refine .inr ⟨rfl, ?_, ?_⟩
    · have := h1.1
      rw [h2, h3.2.1] at this
      exact this
    · rw [h2]; simp
structure Live (f : Int) (A : Ab) (j : Jn) (all sure : List Bs) : Prop where
  good : GoodJ f A all sure
  recs : all = j.recs
  pre : sure <+: j.recs
  x : (A.F f).1 = formL j.recs
  bytes : j.bytes = (formL j.recs).length
  up : A.down = false
theorem open_spec (hg : GoodJ f A all sure) (hf : 0 ≤ f ∧ f ≤ 15) :
    GoodJ f (openJ A f).2.2 all sure ∧
    (((openJ A f).1 = none ∧ ((openJ A f).2.1 = 8 ∨ (openJ A f).2.1 = 9)) ∨
      ∃ j, (openJ A f).1 = some j ∧ (openJ A f).2.1 = 0 ∧ j.broken = false ∧ j.recs <+: all ∧ sure <+: j.recs ∧ Live f (openJ A f).2.2 j j.recs j.recs) := by
  have hs := hg.sync
  unfold openJ
  rw [if_neg (by omega)]
  by_cases he : (syncA A f).1 = 0
  · rw [if_neg (by simp [he])]
    obtain ⟨_, _, hd, hfi, _, _⟩ := sync_ok hg.wf he
    rw [read_all hd hf]
    generalize (syncA A f).2 = B at *
    have hF := hfi.1
    rw [hF]
    have hx := hs.x
    rw [hF] at hx
    dsimp only at hx ⊢
    generalize hxx : (A.F f).1 = x at *
    have hgs : ∀ {C : Ab}, WF C → C.F f = (formL (readJ x).1, formL (readJ x).1) → C.down = false → Live f C ⟨(readJ x).1, (readJ x).2, false⟩ (readJ x).1 (readJ x).1 := fun {C} hw e hd =>
      ⟨⟨hw, (readJ_spec x).1, List.prefix_refl _, by rw [e]; exact Ok.own (List.prefix_refl _), by rw [e]; exact Ok.own (List.prefix_refl _)⟩, rfl, List.prefix_refl _, by rw [e], (readJ_spec x).2.1, hd⟩
    have hp1 : (readJ x).1 <+: all := Dm.readJ hs.few hx.1
    have hp2 : sure <+: (readJ x).1 := by
      obtain ⟨z, hz⟩ := hx.2
      rw [← hz, readJ_forms (hs.few.sub hs.sub) z]
      exact List.prefix_append _ _
    obtain ⟨r1, r2, r3, r4⟩ := readJ_spec x
    unfold openB
    rw [if_neg (by simp)]
    dsimp only
    by_cases hlt : (readJ x).2 < x.length
    · rw [if_pos hlt]
      have ht := trunc_val (A := B) (n := (readJ x).2) hf (by rw [hF]; exact Nat.le_of_lt hlt)
      have htw := truncA_wf hs.wf f (readJ x).2
      rcases ht with ⟨t1, t2⟩ | ⟨t1, _, t2⟩
      · rw [if_pos (by rw [t1]; decide)]
        refine ⟨?_, .inl ⟨rfl, .inl t1⟩⟩
        dsimp only
        rw [t2]
        exact hs.comes
      · rw [if_neg (by rw [t1]; simp)]
        dsimp only
        have e : (truncA B f ((readJ x).2 : Nat)).2.F f = (formL (readJ x).1, formL (readJ x).1) := by
          have e1 : x.take (readJ x).2 = formL (readJ x).1 := by
            have h5 : (formL (readJ x).1 ++ x.drop (readJ x).2).take (formL (readJ x).1).length = formL (readJ x).1 := List.take_left
            rw [← r3, ← r2] at h5
            exact h5
          rw [t2, hF, e1]
          exact setF_same _ _ _
        have hd2 : (truncA B f ((readJ x).2 : Nat)).2.down = false := by
          rw [t2]
          show (endsA B).2.down = false
          rw [(endsA_same B).2.1]; exact hd
        have hl := hgs htw e hd2
        refine ⟨⟨htw, hs.few, hs.sub, ?_, ?_⟩, .inr ⟨_, rfl, rfl, rfl, hp1, hp2, hl⟩⟩
        all_goals
          rw [e]
          refine ⟨?_, ?_⟩
          · obtain ⟨m, hm⟩ := hp1
            rw [← hm, formL_append, Dm.iff]
            refine ⟨by simp, fun i => ?_⟩
            by_cases hi : i < (formL (readJ x).1).length
            · left
              simp only [List.getD_eq_getElem?_getD]
              rw [List.getElem?_append_left hi]
            · right
              simp only [List.getD_eq_getElem?_getD]
              rw [List.getElem?_eq_none (by omega)]
              rfl
          · obtain ⟨m, hm⟩ := hp2
            rw [← hm, formL_append]
            exact List.prefix_append _ _
    · rw [if_neg hlt]
      dsimp only
      have e1 : x = formL (readJ x).1 := by
        have : x.drop (readJ x).2 = [] := List.drop_eq_nil_of_le (by omega)
        rw [this, List.append_nil] at r3
        exact r3
      refine ⟨hs, .inr ⟨_, rfl, rfl, rfl, hp1, hp2, hgs hs.wf ?_ hd⟩⟩
      rw [hF, ← e1]
  · rw [if_pos (by simpa using he)]
    exact ⟨hs, .inl ⟨rfl, (sync_val A hf).resolve_left he⟩⟩
theorem open_up (hg : GoodJ f A all sure) (hf : 0 ≤ f ∧ f ≤ 15) (hd : A.down = false) (hl : A.lost = 0) (ha : A.armed = 0) : (openJ A f).1 ≠ none := by
  have he : endsA A = (false, A) := by unfold endsA; rw [if_pos (.inr ha)]
  have hc : comesA A = A := by unfold comesA; rw [he]; simp
  have hs : syncA A f = (0, settleA A f (A.F f).1) := by
    unfold syncA
    rw [hc, mayA_up hd (by omega), if_neg (by simp), if_neg (by omega)]
  unfold openJ
  rw [if_neg (by omega), hs, if_neg (by simp)]
  dsimp only
  have hd2 : (settleA A f (A.F f).1).down = false := hd
  have ha2 : (settleA A f (A.F f).1).armed = 0 := ha
  rw [read_all hd2 hf]
  generalize settleA A f (A.F f).1 = B at *
  have he2 : endsA B = (false, B) := by unfold endsA; rw [if_pos (.inr ha2)]
  have hb : comesA B = B := by unfold comesA; rw [he2]; simp
  unfold openB
  rw [if_neg (by simp)]
  split
  · rename_i hlt
    dsimp only at hlt
    rcases trunc_val (A := B) (n := (readJ (B.F f).1).2) hf (Nat.le_of_lt hlt) with ⟨t1, _⟩ | ⟨t1, _⟩
    · exfalso
      unfold truncA at t1
      rw [hb, mayA_up hd2 (by omega), if_neg (by simp), if_neg (by omega)] at t1
      cases t1
    · rw [if_neg (by rw [t1]; simp)]
      simp
  · simp
end JnSpec
namespace JnSpec
open CodeSpec DkSpec
variable {all sure : List Bs} {f : Int} {A : Ab} {j : Jn}
def LJ (f : Int) (A : Ab) (j : Jn) (all sure : List Bs) : Prop := (j.broken = false ∧ Live f A j all sure) ∨ (j.broken = true ∧ GoodJ f A all sure)
theorem LJ.good (h : LJ f A j all sure) : GoodJ f A all sure := h.elim (fun h => h.2.good) (fun h => h.2)
theorem putB_end (s t : Bs) (ht : t ≠ []) : putB s s.length t = s ++ t := by
  unfold putB
  rw [if_neg ht]
  have e : s.length + t.length - s.length = t.length := by omega
  rw [e, List.take_left', List.drop_eq_nil_of_le (by simp), List.append_nil]
  rfl
theorem Live.add (h : Live f A j all sure) (hf : 0 ≤ f ∧ f ≤ 15) {t : Bs} (ht : t.length ≤ 20000) (hb : j.bytes + (form t).length ≤ 1048576) {A' : Ab} (hF : A'.F = A.F) (hw : WF A') (hd : A'.down = A.down) :
    Live f (addA A' f j.bytes (form t)) ⟨j.recs ++ [t], j.bytes + (form t).length, false⟩ (all ++ [t]) sure := by
  have hne : form t ≠ [] := List.length_pos_iff.1 (form_pos t)
  have hw2 := addA_wf hw f j.bytes (form t) (by omega) (by omega)
  have e : (addA A' f j.bytes (form t)).F f = (formL (j.recs ++ [t]), (A.F f).2) := by
    unfold addA
    rw [if_neg hne]
    show setF A'.F f _ f = _
    rw [setF_same, hF, h.x, h.bytes, putB_end _ _ hne, formL_append]
    simp [formL]
  have hg := h.good.more ht
  refine ⟨⟨hw2, hg.few, hg.sub, ?_, ?_⟩, by rw [h.recs], h.pre.trans (List.prefix_append _ _), by rw [e], ?_, ?_⟩
  · rw [e, h.recs]; exact Ok.own (h.pre.trans (List.prefix_append _ _))
  · rw [e]; exact hg.y
  · dsimp only
    rw [formL_append, List.length_append, h.bytes]
    simp [formL]
  · have : (addA A' f j.bytes (form t)).down = A'.down := by
      unfold addA; rw [if_neg hne]
    rw [this, hd]; exact h.up
theorem write_val {A : Ab} (hd : A.down = false) (hf : 0 ≤ f ∧ f ≤ 15) {n : Nat} {s : Bs} (hb : n + s.length ≤ 16777216) :
    ((writeA A f n s).1 = 0 ∧ (writeA A f n s).2 = addA (endsA A).2 f n s) ∨ ((writeA A f n s).1 = 8 ∧ ∃ keep, (writeA A f n s).2 = crashA (addA (endsA A).2 f n s) keep) := by
  have hw : wrA (endsA A).2 f n s = (0, addA (endsA A).2 f n s) := by
    unfold wrA
    rw [mayA_up (by rw [(endsA_same A).2.1]; exact hd) (by omega), if_neg (by simp), if_neg (by omega), if_neg (by omega)]
    simp
  unfold writeA
  rw [hw]
  split
  · exact .inr ⟨rfl, _, rfl⟩
  · exact .inl ⟨rfl, rfl⟩
theorem append_spec (h : LJ f A j all sure) (hf : 0 ≤ f ∧ f ≤ 15) (t : Bs) :
    ((appendJ A f j t).1 = 0 ∧ (appendJ A f j t).2.2.recs = j.recs ++ [t] ∧ LJ f (appendJ A f j t).2.1 (appendJ A f j t).2.2 (all ++ [t]) sure) ∨
    ((appendJ A f j t).1 = 8 ∧ (appendJ A f j t).2.2.recs = j.recs ∧ LJ f (appendJ A f j t).2.1 (appendJ A f j t).2.2 (all ++ [t]) sure) ∨
    (((appendJ A f j t).1 = 7 ∨ (appendJ A f j t).1 = 3 ∨ (appendJ A f j t).1 = 6) ∧ (appendJ A f j t).2.2.recs = j.recs ∧ LJ f (appendJ A f j t).2.1 (appendJ A f j t).2.2 all sure) := by
  rcases h with ⟨hb, hl⟩ | ⟨hb, hg⟩
  · unfold appendJ
    rw [if_neg (by rw [hb]; simp)]
    by_cases h1 : 20000 < t.length
    · rw [if_pos h1]; exact .inr (.inr ⟨.inr (.inl rfl), rfl, .inl ⟨hb, hl⟩⟩)
    rw [if_neg h1]
    by_cases h2 : 1048576 < j.bytes + (form t).length
    · rw [if_pos h2]; exact .inr (.inr ⟨.inr (.inr rfl), rfl, .inl ⟨hb, hl⟩⟩)
    rw [if_neg h2]
    have ha := hl.add hf (t := t) (by omega) (by omega) (A' := (endsA A).2) (endsA_same A).1 (endsA_wf hl.good.wf) (endsA_same A).2.1
    rcases write_val hl.up hf (n := j.bytes) (s := form t) (by omega) with ⟨w1, w2⟩ | ⟨w1, keep, w2⟩
    · rw [if_neg (by rw [w1]; simp)]
      refine .inl ⟨rfl, rfl, .inl ⟨rfl, ?_⟩⟩
      dsimp only
      rw [w2]; exact ha
    · rw [if_pos (by rw [w1]; simp)]
      refine .inr (.inl ⟨w1, rfl, .inr ⟨rfl, ?_⟩⟩)
      dsimp only
      rw [w2]; exact ha.good.crash keep
  · unfold appendJ
    rw [if_pos hb]
    exact .inr (.inr ⟨.inl rfl, rfl, .inr ⟨hb, hg⟩⟩)
theorem sync_spec (h : LJ f A j all sure) (hf : 0 ≤ f ∧ f ≤ 15) :
    (syncJ A f j).2.2.recs = j.recs ∧ (((syncJ A f j).1 = 0 ∧ LJ f (syncJ A f j).2.1 (syncJ A f j).2.2 all j.recs) ∨ ((syncJ A f j).1 ≠ 0 ∧ LJ f (syncJ A f j).2.1 (syncJ A f j).2.2 all sure)) := by
  rcases h with ⟨hb, hl⟩ | ⟨hb, hg⟩
  · have hs := hl.good.sync
    unfold syncJ
    rw [if_neg (by rw [hb]; simp)]
    dsimp only
    refine ⟨rfl, ?_⟩
    by_cases he : (syncA A f).1 = 0
    · refine .inl ⟨he, .inl ⟨by simp [he], ?_⟩⟩
      obtain ⟨_, _, hd, hfi, _, _⟩ := sync_ok hl.good.wf he
      have hF := hfi.1
      rw [hl.x] at hF
      have hfew := hl.good.few
      have hrec := hl.recs
      have ho : Ok all j.recs (formL j.recs) := by rw [hrec]; exact Ok.own (List.prefix_refl _)
      exact ⟨⟨hs.wf, hs.few, by rw [hrec]; exact List.prefix_refl _, by rw [hF]; exact ho, by rw [hF]; exact ho⟩, hrec, List.prefix_refl _, by rw [hF], hl.bytes, hd⟩
    · exact .inr ⟨he, .inr ⟨by simp [he], hs⟩⟩
  · unfold syncJ
    rw [if_pos hb]
    exact ⟨rfl, .inr ⟨by simp, .inr ⟨hb, hg⟩⟩⟩
theorem GoodJ.start (h : GoodJ f A all sure) : GoodJ f (startA A) all sure := h.same (startA_wf h.wf) rfl
theorem GoodJ.lose (h : GoodJ f A all sure) (n : Int) (hn : n < 2 ^ 63) : GoodJ f (loseA A n) all sure := h.same (loseA_wf h.wf n hn) rfl
theorem GoodJ.arm (h : GoodJ f A all sure) (n : Int) (hn : n < 2 ^ 63) (keep : List Int) (hk : ∀ x ∈ keep, -2 ^ 63 ≤ x ∧ x < 2 ^ 63) (hl : keep.length < 2 ^ 62) : GoodJ f (armA A n keep) all sure := h.same (armA_wf h.wf n hn keep hk hl) rfl
theorem Live.same (h : Live f A j all sure) {B : Ab} (hg : GoodJ f B all sure) (hF : B.F = A.F) (hd : B.down = A.down) : Live f B j all sure := ⟨hg, h.recs, h.pre, by rw [hF]; exact h.x, h.bytes, by rw [hd]; exact h.up⟩
theorem LJ.lose (h : LJ f A j all sure) (n : Int) (hn : n < 2 ^ 63) : LJ f (loseA A n) j all sure :=
  h.imp (fun h => ⟨h.1, h.2.same (h.2.good.lose n hn) rfl rfl⟩) (fun h => ⟨h.1, h.2.lose n hn⟩)
theorem LJ.arm (h : LJ f A j all sure) (n : Int) (hn : n < 2 ^ 63) (keep : List Int) (hk : ∀ x ∈ keep, -2 ^ 63 ≤ x ∧ x < 2 ^ 63) (hl : keep.length < 2 ^ 62) : LJ f (armA A n keep) j all sure :=
  h.imp (fun h => ⟨h.1, h.2.same (h.2.good.arm n hn keep hk hl) rfl rfl⟩) (fun h => ⟨h.1, h.2.arm n hn keep hk hl⟩)
theorem good_start (f : Int) : GoodJ f newA [] [] := ⟨newA_wf, (fun t ht => by cases ht), List.prefix_refl _, ⟨trivial, List.nil_prefix⟩, ⟨trivial, List.nil_prefix⟩⟩
end JnSpec
namespace JnSpec
open CodeSpec
theorem sumFrom_append (a b : Bytes) : ∀ i : Nat, sumFrom i (a ++ b) = sumFrom i a + sumFrom (i + a.length) b := by
  induction a with
  | nil => intro i; simp [sumFrom]
  | cons c a ih =>
    intro i
    simp only [List.cons_append, sumFrom, List.length_cons]
    rw [ih (i + 1)]
    have : i + 1 + a.length = i + (a.length + 1) := by omega
    rw [this]
    omega
theorem sum_take (s : Bytes) (i : Nat) (h : i < s.length) : sumR (s.take (i + 1)) = sumR (s.take i) + (s[i].toNat : Int) * ((i : Int) + 1) := by
  have e : s.take (i + 1) = s.take i ++ [s[i]] := by rw [List.take_add_one, List.getElem?_eq_getElem h]; rfl
  unfold sumR
  have hl : (s.take i).length = i := by rw [List.length_take]; omega
  rw [e, sumFrom_append, Nat.zero_add, hl]
  simp only [sumFrom]
  omega
theorem sum_take_bound {s : Bytes} (hs : s.length ≤ 16777216) (i : Nat) : 0 ≤ sumR (s.take i) ∧ sumR (s.take i) < 9223372036854775807 := by
  have h1 := sumR_InR (s := s.take i) (by rw [List.length_take]; omega)
  have h2 := sumR_bound (s.take i)
  have h3 := sq_le (n := (s.take i).length) (m := 16777216) (by rw [List.length_take]; omega)
  have : (255 : Int) * (16777216 : Nat) * (16777216 : Nat) < 9223372036854775807 := by decide
  exact ⟨h1.2, by omega⟩
theorem form_len {s : Bytes} (hs : s.length ≤ 16777216) : (form s).length ≤ s.length + 64 := by
  have h1 := (sumR_InR hs)
  have h2 := decDigits_len s.length 20 (by omega) (by omega)
  have h3 := decDigits_len (sumR s).toNat 20 (by omega) (by have := h1.1.2; omega)
  have e1 : Go.Lib.itoa (s.length : Int) = Go.Lib.decDigits s.length := by
    unfold Go.Lib.itoa
    rw [if_neg (by omega)]
    simp
  have e2 : Go.Lib.itoa (sumR s) = Go.Lib.decDigits (sumR s).toNat := by
    unfold Go.Lib.itoa
    rw [if_neg (by omega)]
  rw [form_split]
  simp only [List.length_append, List.length_cons, List.length_nil, e1, e2]
  omega
end JnSpec
namespace Go.Proofs
open Go Go.Sh Go.RowKit CodeSpec JnSpec
set_option linter.unusedSimpArgs false
set_option linter.unusedVariables false
set_option maxRecDepth 10000
section
variable {K : Value → World → Prop} {w w0 : World} {L : List (Addr × Value)}
def SuJ (s : List UInt8) (w0 : World) (vs : List Value) (w' : World) : Prop := w' = w0 ∧ ∃ (u : Value) (i : Nat), vs = [u, .int .i64 (sumR (s.take i)), .int .i64 (i : Int)] ∧ i ≤ s.length
def suMu (n : Nat) : List Value → World → Nat
  | [_, _, .int _ i], _ => n - i.toNat
  | _, _ => 0
theorem suMu_eq (n : Nat) (a b : Value) (k : IntKind) (i : Int) (w : World) : suMu n [a, b, .int k i] w = n - i.toNat := rfl
theorem Sum_ok (s : List UInt8) (hs : s.length ≤ 16777216) (k : K (.int .i64 (sumR s)) w) : callM Tryd.prog 79 #[.string ⟨s.toArray⟩] K w := by
  apply sh_79_ok
  unfold sh_79
  repeat (any_goals ((with_reducible refine idO ?_); (with_reducible refine oM_gen fun Kv hK=>?_); simp [go_sem]; refine hK _ _ ?_; clear hK; clear Kv))
  refine ⟨SuJ s w, suMu s.length, ⟨rfl, undef, 0, rfl, by omega⟩, ?_⟩
  rintro _ _ _ ⟨rfl, u, i, rfl, hi⟩
  by_cases hin : i = s.length
  · rw [List.take_of_length_le (by omega)]
    repeat (any_goals (first
    | (with_reducible ((refine idCond ?_); refine yO ?_))
    | ((with_reducible refine idO ?_); (with_reducible refine oM_gen fun Kv hK=>?_); simp [go_sem]; refine hK _ _ ?_; clear hK; clear Kv)))
    exact k
  have hlt : i < s.length := by omega
  have hb := sum_take_bound hs (i + 1)
  have hb0 := sum_take_bound hs i
  rw [sum_take s i hlt] at hb
  repeat (any_goals (first
  | (with_reducible ((refine idCond ?_); refine yN ?_))
  | ((with_reducible refine idO ?_); (with_reducible refine oM_gen fun Kv hK=>?_); simp [go_sem]; (try simp (disch := omega) only [wrapI64, wrapU8, wrapU32, wrapU64]); (first|refine hK _ _ ?_|refine And.intro (by omega) (hK _ _ ?_)); clear hK; clear Kv)))
  have ec : s[i]?.getD 0 = s[i] := by rw [List.getElem?_eq_getElem hlt]; rfl
  have hst := sum_take s i hlt
  rw [ec]
  have hc := s[i].toNat_lt
  generalize s[i].toNat = c at *
  have hp : 0 ≤ (c : Int) * ((i : Int) + 1) := Int.mul_nonneg (by omega) (by omega)
  have e1 : IntKind.i64.wrap (c : Int) = c := by rw [wrapI64] <;> omega
  rw [e1]
  generalize (c : Int) * ((i : Int) + 1) = p at *
  have e2 : IntKind.i64.wrap p = p := by rw [wrapI64] <;> omega
  rw [e2]
  have e3 : IntKind.i64.wrap (sumR (s.take i) + p) = sumR (s.take i) + p := by rw [wrapI64] <;> omega
  rw [e3, ← hst]
  refine ⟨⟨rfl, _, i + 1, rfl, by omega⟩, ?_⟩
  simp only [suMu_eq]; omega
theorem form_ok (s : List UInt8) (hs : s.length ≤ 16777216) (hl : Cd.Laid w) (k : ∀ w', Below w.heap.size w w' → K (.string ⟨(form s).toArray⟩) w') : callM Tryd.prog 83 #[.string ⟨s.toArray⟩] K w := by
  apply sh_83_ok
  unfold sh_83
  refine Cd.pText_ok s (by omega) hl (fun w1 h1 => ?_)
  refine Sum_ok s hs ?_
  refine Cd.pNum_ok (sumR s) (sumR_InR hs).1 (hl.below h1 hl.size) (fun w2 h2 => ?_)
  have h1l := Cd.encText_len s (by omega)
  have h3 := form_len hs
  have h4 : (form s).length = (encText s).length + (encNum (sumR s)).length := by simp [form]
  repeat (any_goals ((with_reducible refine idO ?_); (with_reducible refine oM_gen fun Kv hK=>?_); simp [go_sem]; refine And.intro (by omega) (hK _ _ ?_); clear hK; clear Kv))
  exact Cd.K_eq (k _ (h1.trans (h2.mono h1.size))) (by simp [form])
end
end Go.Proofs
namespace Go.Proofs
open Go Go.Sh Go.RowKit CodeSpec JnSpec Go.Lib
set_option linter.unusedSimpArgs false
set_option linter.unusedVariables false
set_option maxRecDepth 10000
theorem below_own {w w2 w3 : World} {B : Nat} {e : TypeId} {sz n : Nat} {v : Value} {xs : List Value} (h : Below B w w2) (hown : w2.ownsRow B e sz v n xs) (hB : B ≤ w2.heap.size) (hg : w2.grownBy w3 v.ownBlock) : Below B w w3 :=
  h.trans (Cd.below_of_grown hg hB (fun k hk => by
    rcases hown.2 with ⟨rfl, _⟩ | ⟨g, cap, cur, rfl, hb, _⟩
    · cases hk
    · simp [Value.ownBlock] at hk; omega))
theorem rdText_le (s : List UInt8) : (rdText ⟨s, false⟩).1.length ≤ s.length := by
  rcases rdText_some ⟨s, false⟩ Rd.ok_good with h | ⟨t, u, h, h2, _⟩
  · rw [h]; simp
  · rw [h]
    have := congrArg (fun r => r.rest.length) h2
    simp [encText] at this ⊢
    omega
theorem rdText_rest_le (s : List UInt8) : (rdText ⟨s, false⟩).2.rest.length ≤ s.length := by
  rcases rdText_some ⟨s, false⟩ Rd.ok_good with h | ⟨t, u, h, h2, _⟩
  · rw [h]; simp [failed]
  · rw [h]
    have := congrArg (fun r => r.rest.length) h2
    simp [encText] at this ⊢
    omega
section
variable {K : Value → World → Prop} {w w0 : World}
def RdJ (s : List UInt8) (w : World) (vs : List Value) (w' : World) : Prop := ∃ (a b c d e v : Value) (n : Nat) (xs : List (List UInt8)), vs = [a, b, c, d, e, v, .int .i64 (n : Int)] ∧ n ≤ s.length ∧ w'.ownsRow w.heap.size 9 1 v xs.length (xs.map Cd.strV) ∧ Below w.heap.size w w' ∧ readJ s = (xs ++ (readJ (s.drop n)).1, n + (readJ (s.drop n)).2) ∧ xs.length ≤ n
def RdE (s : List UInt8) (w : World) (vs : List Value) (w' : World) : Prop := ∃ (a b c d e v : Value), vs = [a, b, c, d, e, v, .int .i64 (((readJ s).2 : Nat) : Int)] ∧ w'.ownsRow w.heap.size 9 1 v (readJ s).1.length ((readJ s).1.map Cd.strV) ∧ Below w.heap.size w w'
def rdMu (m : Nat) : List Value → World → Nat
  | [_, _, _, _, _, _, .int _ i], _ => m - i.toNat
  | _, _ => 0
theorem rdMu_eq (m : Nat) (a b c d e v : Value) (k : IntKind) (i : Int) (w : World) : rdMu m [a, b, c, d, e, v, .int k i] w = m - i.toNat := rfl
theorem readJ_ok (s : List UInt8) (hs : s.length ≤ 16777216) (hl : Cd.Laid w) (k : ∀ v w', w'.ownsRow w.heap.size 9 1 v (readJ s).1.length ((readJ s).1.map Cd.strV) → Below w.heap.size w w' → K (.tuple #[v, .int .i64 (readJ s).2]) w') : callM Tryd.prog 81 #[.string ⟨s.toArray⟩] K w := by
  apply sh_81_ok
  unfold sh_81
  skip
  refine ⟨RdE s w, ?_, ?_⟩
  rotate_left
  · rintro _ _ w2 ⟨_, _, _, _, _, v, rfl, hown, hb⟩
    simp only [List.getD_cons_zero, List.getD_cons_succ]
    exact k v w2 hown hb
  refine ⟨RdJ s w, rdMu s.length, ⟨_, _, _, _, _, _, 0, [], rfl, by omega, World.ownsRow_nil _ _ _ _, Below.refl _ _, by simp, by simp⟩, ?_⟩
  rintro _ _ w2 ⟨_, _, _, _, _, v, n, xs, rfl, hn, hown, hb2, hrd, hxn⟩
  simp only [List.getD_cons_zero, List.getD_cons_succ]
  have hz2 := hb2.size
  by_cases hlt : n < s.length
  · have hdl : (s.drop n).length = s.length - n := by simp
    have htl : List.take s.length s = s := List.take_length
    repeat (any_goals (first
    | (with_reducible ((refine idCond ?_); refine yN ?_))
    | ((with_reducible refine idO ?_); (with_reducible refine oM_gen fun Kv hK=>?_); simp [go_sem, htl]; (first|refine hK _ _ ?_|refine And.intro (by omega) (hK _ _ ?_)); clear hK; clear Kv)))
    refine Cd.open_ok _ (fun w3 hr3 hb3 => ?_)
    have hb23 := hb2.trans (hb3.mono hz2)
    have hz3 := hb3.size
    have hlt3 := hr3.lt
    have hl3 : Cd.Laid w3 := hl.below hb23 hl.size
    have hown3 := hown.kept (Cd.grown_of_below hb3 none) (by
      rcases hown.2 with ⟨rfl, _⟩ | ⟨g, cap, cur, rfl, _⟩
      · left; rfl
      · right; simp [Value.ownBlock])
    refine Cd.rtext_ok _ _ hl3 (by simp; omega) hr3 (fun w4 hr4 hg4 => ?_)
    have ht := rdText_le (s.drop n)
    have ht2 := rdText_rest_le (s.drop n)
    have hb4 : Below w2.heap.size w3 w4 := Cd.below_of_grown hg4 (by omega) (fun k hk => by cases hk; omega)
    have hz4 := hb4.size
    have hl4 : Cd.Laid w4 := hl3.below (hb4.mono hz2) hl.size
    refine Cd.rnum_ok _ _ hl4 (by omega) hr4 (fun w5 hr5 hg5 => ?_)
    have hb5 : Below w2.heap.size w4 w5 := Cd.below_of_grown hg5 (by omega) (fun k hk => by cases hk; omega)
    have hz5 := hb5.size
    have hl5 : Cd.Laid w5 := hl4.below (hb5.mono hz2) hl.size
    obtain ⟨t, et⟩ : ∃ t, t = (rdText ⟨s.drop n, false⟩).1 := ⟨_, rfl⟩
    obtain ⟨m, em⟩ : ∃ m, m = (rdNum (rdText ⟨s.drop n, false⟩).2).1 := ⟨_, rfl⟩
    rw [← et, ← em]
    rw [← et] at ht
    refine form_ok t (by omega) hl5 (fun w6 hb6 => ?_)
    have hfl := form_len (s := t) (by omega)
    have hfp := form_pos t
    have hz6 := hb6.size
    have hb36 : Below w2.heap.size w2 w6 := (hb3.trans (hb4.trans (hb5.trans (hb6.mono (by omega)))))
    have hown6 := hown.kept (Cd.grown_of_below hb36 none) (by
      rcases hown.2 with ⟨rfl, _⟩ | ⟨g, cap, cur, rfl, _⟩
      · left; rfl
      · right; simp [Value.ownBlock])
    have hb06 := hb2.trans (hb36.mono hz2)
    have hf1 : first (s.drop n) = if bad1 (s.drop n) t m then none else some t := by rw [et, em]; rfl
    refine ⟨fun vs w' => vs = [.bool (decide (bad1 (s.drop n) t m))] ∧ w' = w6, ?_, ?_⟩
    · by_cases h1 : 20000 < t.length
      · have hb : bad1 (s.drop n) t m := .inl h1
        repeat (any_goals (first
        | (with_reducible ((refine idCond ?_); refine yN ?_))
        | ((with_reducible refine idO ?_); (with_reducible refine oM_gen fun Kv hK=>?_); simp [go_sem]; refine hK _ _ ?_; clear hK; clear Kv)))
        exact ⟨by simp [hb]; omega, rfl⟩
      · by_cases h2 : m = sumR t
        · have e1 : ¬ (20000 : Int) < t.length := by omega
          repeat (any_goals (first
          | (with_reducible ((refine idCond ?_); refine yO ?_))
          | ((with_reducible refine idO ?_); (with_reducible refine oM_gen fun Kv hK=>?_); simp [go_sem]; refine hK _ _ ?_; clear hK; clear Kv)))
          refine Sum_ok t (by omega) ?_
          by_cases h3 : (s.drop n).length < (form t).length
          · have hb : bad1 (s.drop n) t m := .inr (.inr (.inl h3))
            repeat (any_goals (first
            | (with_reducible ((refine idCond ?_); first|refine yN ?_|refine yR ?_))
            | ((with_reducible refine idO ?_); (with_reducible refine oM_gen fun Kv hK=>?_); simp [go_sem]; (try simp (disch := omega) only [wrapI64, wrapU8, wrapU32, wrapU64]); refine hK _ _ ?_; clear hK; clear Kv)))
            exact ⟨by simp [hb]; omega, rfl⟩
          · have e4 : ((n : Int) + ((form t).length : Int)).toNat = n + (form t).length := by omega
            have e5 : (s.take (n + (form t).length)).drop n = (s.drop n).take (form t).length := by
              rw [List.drop_take]
              congr 1
              omega
            have hb : bad1 (s.drop n) t m ↔ ¬ (s.drop n).take (form t).length = form t := by
              unfold bad1
              constructor
              · rintro (h | h | h | h)
                · exact absurd h h1
                · exact absurd h2 h
                · exact absurd h h3
                · exact h
              · exact fun h => .inr (.inr (.inr h))
            repeat (any_goals (first
            | (with_reducible ((refine idCond ?_); first|refine yO ?_|refine yR ?_))
            | ((with_reducible refine idO ?_); (with_reducible refine oM_gen fun Kv hK=>?_); simp [go_sem]; (try simp (disch := omega) only [wrapI64, wrapU8, wrapU32, wrapU64]); (first|refine hK _ _ ?_|refine And.intro (by omega) (hK _ _ ?_)); clear hK; clear Kv)))
            refine ⟨?_, rfl⟩
            rw [e4, e5]
            simp [hb]
        · have hb : bad1 (s.drop n) t m := .inr (.inl h2)
          repeat (any_goals (first
          | (with_reducible ((refine idCond ?_); refine yO ?_))
          | ((with_reducible refine idO ?_); (with_reducible refine oM_gen fun Kv hK=>?_); simp [go_sem]; refine hK _ _ ?_; clear hK; clear Kv)))
          refine Sum_ok t (by omega) ?_
          repeat (any_goals (first
          | (with_reducible ((refine idCond ?_); refine yQ ?_))
          | ((with_reducible refine idO ?_); (with_reducible refine oM_gen fun Kv hK=>?_); simp [go_sem]; refine hK _ _ ?_; clear hK; clear Kv)))
          exact ⟨by simp [hb]; exact h2, rfl⟩
    · rintro _ _ w7 ⟨rfl, rfl⟩
      simp only [List.getD_cons_zero]
      by_cases hbad : bad1 (s.drop n) t m
      · rw [if_pos hbad] at hf1
        rw [readJ_none hf1] at hrd
        simp only [hbad, decide_true]
        repeat (any_goals (with_reducible ((refine idCond ?_); refine yL ?_)))
        have e2 : (readJ s).2 = n := by rw [hrd]; rfl
        have e3 : (readJ s).1 = xs := by rw [hrd]; simp
        unfold RdE
        rw [e2, e3]
        exact ⟨_, _, _, _, _, v, rfl, hown6, hb06⟩
      · rw [if_neg hbad] at hf1
        have hfs := first_some hf1
        rw [readJ_some hf1] at hrd
        simp only [hbad, decide_false]
        have hl1 := congrArg List.length hfs.2
        rw [List.length_append] at hl1
        have hby : (xs.length + 1) * Tryd.t9.bytes ≤ 140737488355328 := by
          have : Tryd.t9.bytes = 16 := by kernel_rfl
          rw [this]
          omega
        repeat (any_goals (first
        | (with_reducible ((refine idCond ?_); refine yM ?_))
        | ((with_reducible refine idO ?_); (with_reducible refine oM_gen fun Kv hK=>?_); simp [go_sem]; refine hK _ _ ?_; clear hK; clear Kv)))
        refine oM_append_new (base := w.heap.size) (n := xs.length) (xs := xs.map Cd.strV) (i := Tryd.t9) (z := .string ⟨#[]⟩) (cs := #[Cd.strV t]) Tryd.underlying23 (by kernel_rfl) (by kernel_rfl) rfl rfl (by simp) (by simp [Value.oneCell', Cd.strV]) hown6 (by omega) (by unfold maxLen; omega) hby ?_
        intro v' w8 ho8 hg8
        repeat (any_goals ((with_reducible refine idO ?_); (with_reducible refine oM_gen fun Kv hK=>?_); simp [go_sem]; (try simp (disch := omega) only [wrapI64, wrapU8, wrapU32, wrapU64]); refine hK _ _ ?_; clear hK; clear Kv))
        refine ⟨⟨_, _, _, _, _, v', n + (form t).length, xs ++ [t], rfl, by omega, by simpa using ho8, below_own hb06 hown6 (by omega) hg8, ?_, by simp; omega⟩, by simp only [rdMu_eq]; omega⟩
        rw [hrd, List.drop_drop]
        simp [Nat.add_assoc]
  · obtain rfl : n = s.length := by omega
    have e0 : readJ (s.drop s.length) = ([], 0) := by rw [List.drop_length]; exact readJ_none first_nil
    rw [e0] at hrd
    repeat (any_goals (first
    | (with_reducible ((refine idCond ?_); refine yM ?_))
    | ((with_reducible refine idO ?_); (with_reducible refine oM_gen fun Kv hK=>?_); simp [go_sem]; refine hK _ _ ?_; clear hK; clear Kv)))
    have e2 : (readJ s).2 = s.length := by rw [hrd]; rfl
    have e3 : (readJ s).1 = xs := by rw [hrd]; simp
    unfold RdE
    rw [e2, e3]
    exact ⟨_, _, _, _, _, v, rfl, hown, hb2⟩
end
end Go.Proofs
namespace Go.Proofs
open Go Go.Sh Go.RowKit DkSpec
set_option linter.unusedSimpArgs false
set_option maxRecDepth 10000
@[reducible] def bsV (s : Bs) : Value := .string ⟨s.toArray⟩
def flV (x : Bs × Bs) : Value := .agg #[bsV x.1, bsV x.2]
def i64V (n : Int) : Value := .int .i64 n
def secV (p : Int × Int) : Value := .agg #[.int .i64 p.1, .int .i64 p.2]
def secC (p : Int × Int) : List Value := [.int .i64 p.1, .int .i64 p.2]
theorem keyI : KeyOK Tryd.prog 3 i64V := keyInt (by kernel_rfl)
theorem keyS : KeyOK Tryd.prog 103 secV where
  find := fun w k es ks h => by
    refine (run_findKey_eq w (by kernel_rfl) _ _).trans ?_
    have := findAsk_pair (P := Tryd.prog) (kt := 103) secV (fun w a b => by
      simp [Op.equal, Op.maxDepth, secV, go_sem]
      obtain ⟨a1, a2⟩ := a
      obtain ⟨b1, b2⟩ := b
      by_cases h1 : a1 = b1 <;> by_cases h2 : a2 = b2 <;> simp [h1, h2]) w k es ks 0 h
    simpa using this
  check := fun b w k => by
    have h : ∀ n, (Instr.checkKey b (n + 2) 103 (secV k)).run Tryd.prog w = .ok () w := by
      intro n
      simp [Instr.checkKey, secV, go_sem]
    exact h 9998
  same := fun k => by simp [secV, Instr.sameBits]
structure Dk where
  fm : Nat
  sm : Nat
  q : Value
  kp : Value
def dkCells (A : Ab) (h : Dk) : Array Value := #[.map (some h.fm), h.q, .map (some h.sm), .int .i64 A.lost, .bool A.down, .int .i64 A.armed, h.kp]
structure IsDk (w : World) (b : Nat) (A : Ab) (h : Dk) : Prop where
  blk : w.heap[b]? = some (.cells (dkCells A h) 92 (0, 0))
  files : ∃ l, MapIs i64V w h.fm l ∧ ∀ f, (lookA l f).getD (flV ([], [])) = flV (A.F f)
  set : ∃ sl, MapIs secV w h.sm sl ∧ ∀ p, lookA sl p = if p ∈ A.queue then some (.bool true) else none
  que : w.ownsRow 0 103 2 h.q A.queue.length (flat secC A.queue)
  kep : w.ownsRow 0 3 1 h.kp A.keep.length (A.keep.map i64V)
  ne : h.fm ≠ h.sm
  wf : WF A
def Own (b : Nat) (h : Dk) (i : Nat) : Prop := i = b ∨ i = h.fm ∨ i = h.sm ∨ h.q.ownBlock = some i
def Rdb (h : Dk) (i : Nat) : Prop := h.kp.ownBlock = some i
structure Step (w : World) (b : Nat) (h : Dk) (w' : World) (h' : Dk) : Prop where
  fr : Fr (Own b h) w w'
  own : ∀ i, Own b h' i → Own b h i ∨ w.heap.size ≤ i
  rd : ∀ i, Rdb h' i → Rdb h i ∨ w.heap.size ≤ i
theorem Step.refl (w : World) (b : Nat) (h : Dk) : Step w b h w h := ⟨Fr.refl _ _, fun _ h => .inl h, fun _ h => .inl h⟩
theorem Step.trans {w w1 w2 : World} {b : Nat} {h h1 h2 : Dk} (a : Step w b h w1 h1) (c : Step w1 b h1 w2 h2) : Step w b h w2 h2 :=
  ⟨a.fr.trans c.fr a.own, fun i hi => (c.own i hi).elim (a.own i) (fun h => .inr (Nat.le_trans a.fr.size h)), fun i hi => (c.rd i hi).elim (a.rd i) (fun h => .inr (Nat.le_trans a.fr.size h))⟩
section
variable {w w' : World} {b : Nat} {A : Ab} {h : Dk}
theorem IsDk.lt (d : IsDk w b A h) {i : Nat} (hi : Own b h i ∨ Rdb h i) : i < w.heap.size := by
  rcases hi with (rfl | rfl | rfl | hi) | hi
  · exact (Array.getElem?_eq_some_iff.1 d.blk).1
  · obtain ⟨l, hl, _⟩ := d.files; exact hl.lt
  · obtain ⟨l, hl, _⟩ := d.set; exact hl.lt
  · exact (owns_own d.que hi).1
  · exact (owns_own d.kep hi).1
theorem IsDk.keep (d : IsDk w b A h) (hk : ∀ i, Own b h i ∨ Rdb h i → w'.heap[i]? = w.heap[i]?) : IsDk w' b A h := by
  refine ⟨?_, ?_, ?_, owns_keep d.que (fun i hi => hk i (.inl (.inr (.inr (.inr hi))))), owns_keep d.kep (fun i hi => hk i (.inr hi)), d.ne, d.wf⟩
  · rw [hk b (.inl (.inl rfl))]; exact d.blk
  · obtain ⟨l, hl, h2⟩ := d.files
    exact ⟨l, hl.of_block (hk _ (.inl (.inr (.inl rfl)))), h2⟩
  · obtain ⟨l, hl, h2⟩ := d.set
    exact ⟨l, hl.of_block (hk _ (.inl (.inr (.inr (.inl rfl))))), h2⟩
theorem MapIs.isMap {κ : Type} {mk : κ → Value} {i : Nat} {l : List (κ × Value)} (h : MapIs mk w i l) : ∃ es c, w.heap[i]? = some (.map es c) := by
  obtain ⟨es, c, h, _⟩ := h; exact ⟨es, c, h⟩
theorem IsDk.bfm (d : IsDk w b A h) : b ≠ h.fm := by
  obtain ⟨l, hl, _⟩ := d.files
  obtain ⟨es, c, h1⟩ := MapIs.isMap hl
  intro e
  have h2 := d.blk
  rw [e, h1] at h2; cases h2
theorem IsDk.bsm (d : IsDk w b A h) : b ≠ h.sm := by
  obtain ⟨l, hl, _⟩ := d.set
  obtain ⟨es, c, h1⟩ := MapIs.isMap hl
  intro e
  have h2 := d.blk
  rw [e, h1] at h2; cases h2
theorem IsDk.qne (d : IsDk w b A h) {i : Nat} (hi : h.q.ownBlock = some i) : i ≠ b ∧ i ≠ h.fm ∧ i ≠ h.sm := by
  obtain ⟨_, _, cur, hc⟩ := owns_own d.que hi
  refine ⟨?_, ?_, ?_⟩
  · rintro rfl; rw [d.blk] at hc; cases hc
  · rintro rfl
    obtain ⟨l, hl, _⟩ := d.files
    obtain ⟨es, c, h1⟩ := MapIs.isMap hl
    rw [h1] at hc; cases hc
  · rintro rfl
    obtain ⟨l, hl, _⟩ := d.set
    obtain ⟨es, c, h1⟩ := MapIs.isMap hl
    rw [h1] at hc; cases hc
theorem IsDk.kne (d : IsDk w b A h) {i : Nat} (hi : h.kp.ownBlock = some i) : i ≠ b ∧ i ≠ h.fm ∧ i ≠ h.sm ∧ h.q.ownBlock ≠ some i := by
  obtain ⟨_, _, cur, hc⟩ := owns_own d.kep hi
  refine ⟨?_, ?_, ?_, ?_⟩
  · rintro rfl; rw [d.blk] at hc; cases hc
  · rintro rfl
    obtain ⟨l, hl, _⟩ := d.files
    obtain ⟨es, c, h1⟩ := MapIs.isMap hl
    rw [h1] at hc; cases hc
  · rintro rfl
    obtain ⟨l, hl, _⟩ := d.set
    obtain ⟨es, c, h1⟩ := MapIs.isMap hl
    rw [h1] at hc; cases hc
  · intro hq
    obtain ⟨_, _, cur', hc'⟩ := owns_own d.que hq
    rw [hc] at hc'; cases hc'
theorem IsDk.cells (d : IsDk w b A h) {A' : Ab} (hF : A'.F = A.F) (hq : A'.queue = A.queue) (hk : A'.keep = A.keep) (hw : WF A') (hb : w'.heap[b]? = some (.cells (dkCells A' h) 92 (0, 0))) (ho : ∀ i, i ≠ b → w'.heap[i]? = w.heap[i]?) : IsDk w' b A' h := by
  refine ⟨hb, ?_, ?_, ?_, ?_, d.ne, hw⟩
  · obtain ⟨l, hl, h2⟩ := d.files
    exact ⟨l, hl.of_block (ho _ d.bfm.symm), by rw [hF]; exact h2⟩
  · obtain ⟨l, hl, h2⟩ := d.set
    exact ⟨l, hl.of_block (ho _ d.bsm.symm), by rw [hq]; exact h2⟩
  · rw [hq]; exact owns_keep d.que (fun i hi => ho i (d.qne hi).1)
  · rw [hk]; exact owns_keep d.kep (fun i hi => ho i (d.kne hi).1)
theorem IsDk.c (d : IsDk w b A h) (i : Nat) : w.cell? ⟨b, i, none⟩ = (dkCells A h)[i]? := cell_of_block d.blk i
theorem IsDk.fz (d : IsDk w b A h) (i : Nat) : w.frozen? ⟨b, i, none⟩ = false := frozen_of_block d.blk i
theorem IsDk.set3 (d : IsDk w b A h) (n : Int) (hn : 0 ≤ n ∧ n < 2 ^ 63) : IsDk (w.setCell ⟨b, 3, none⟩ (.int .i64 n)) b { A with lost := n } h :=
  d.cells rfl rfl rfl ⟨hn.1, hn.2, d.wf.a0, d.wf.a1, d.wf.nd, d.wf.qr, d.wf.sz, d.wf.kr, d.wf.kl⟩ (by rw [block_set d.blk]; rfl) (fun i hi => setCell_heap_ne _ _ _ _ hi)
theorem IsDk.set4 (d : IsDk w b A h) (t : Bool) : IsDk (w.setCell ⟨b, 4, none⟩ (.bool t)) b { A with down := t } h :=
  d.cells rfl rfl rfl ⟨d.wf.l0, d.wf.l1, d.wf.a0, d.wf.a1, d.wf.nd, d.wf.qr, d.wf.sz, d.wf.kr, d.wf.kl⟩ (by rw [block_set d.blk]; rfl) (fun i hi => setCell_heap_ne _ _ _ _ hi)
theorem IsDk.set5 (d : IsDk w b A h) (n : Int) (hn : 0 ≤ n ∧ n < 2 ^ 63) : IsDk (w.setCell ⟨b, 5, none⟩ (.int .i64 n)) b { A with armed := n } h :=
  d.cells rfl rfl rfl ⟨d.wf.l0, d.wf.l1, hn.1, hn.2, d.wf.nd, d.wf.qr, d.wf.sz, d.wf.kr, d.wf.kl⟩ (by rw [block_set d.blk]; rfl) (fun i hi => setCell_heap_ne _ _ _ _ hi)
theorem step_set (w : World) (b i : Nat) (h : Dk) (u : Value) : Step w b h (w.setCell ⟨b, i, none⟩ u) h := ⟨(Fr.refl _ _).set _ _ (.inl (.inl rfl)), fun _ h => .inl h, fun _ h => .inl h⟩
theorem IsDk.look (d : IsDk w b A h) (f : Int) : (Instr.lookup 88 (.map (some h.fm)) (.int .i64 f) false).run Tryd.prog w = .ok (flV (A.F f)) w := by
  obtain ⟨l, hl, h2⟩ := d.files
  have := run_lookup (P := Tryd.prog) (t := 88) (et := 100) (z := flV ([], [])) keyI (by kernel_rfl) (fun w => by kernel_rfl) hl f
  rw [h2] at this
  exact this
end
@[reducible] def dkP (b : Nat) : Value := .pointer (some ⟨b, 0, none⟩)
section
variable {w : World} {b : Nat} {A : Ab} {h : Dk} {K : Value → World → Prop}
theorem size_ok (d : IsDk w b A h) (f : Int) (k : K (.int .i64 (A.F f).1.length) w) : callM Tryd.prog 51 #[dkP b, .int .i64 f] K w := by
  apply sh_51_ok
  unfold sh_51 dkP
  have c0 := d.c 0
  simp only [dkCells] at c0
  have hl := d.look f
  repeat (any_goals (first
  | (with_reducible refine pureM_in ?_)
  | (with_reducible first|refine pureQ_in ?_|refine gdQ_conv (fun _ => ?_)|refine pickQT ?_|refine pickQF ?_|refine pickQ_pos (by first|assumption|omega) ?_|refine pickQ_neg (by first|assumption|omega) ?_|refine pickQn_pos (by first|assumption|omega) ?_|refine pickQn_neg (by first|assumption|omega) ?_) | ((with_reducible refine oQ_one ?_ ?_); exact ⟨_, rfl⟩) | (with_reducible first|refine And.intro (Eq.refl (α := World) _) ?_|refine forall_one ?_|refine oQ_nil ?_) | (with_reducible refine oQ_of ⟨_, rfl⟩ (fun W0 hW0 => by (refine oM_gen (fun Kv hK => ?_)); simp [go_sem]; (first | exact hK _ _ ⟨rfl, rfl⟩ | exact ⟨by omega, hK _ _ ⟨rfl, rfl⟩⟩)) ?_)
  | (with_reducible first|refine gdtT ?_|refine gdtF ?_|refine gdfF ?_|refine gdfT ?_|refine gdu ?_ _|refine gdt_pos (by first|assumption|omega) ?_|refine gdt_neg (by first|assumption|omega) ?_|refine gdt_split (fun hg => ?_) (fun hg => ?_)|refine gdf_pos (by first|assumption|omega) ?_|refine gdf_neg (by first|assumption|omega) ?_|refine gdf_split (fun hg => ?_) (fun hg => ?_)|refine gdtn_pos (by first|assumption|omega) ?_|refine gdtn_neg (by first|assumption|omega) ?_|refine gdtn_split (fun hg => ?_) (fun hg => ?_)|refine gdfn_pos (by first|assumption|omega) ?_|refine gdfn_neg (by first|assumption|omega) ?_|refine gdfn_split (fun hg => ?_) (fun hg => ?_)|refine gdtbn_pos (by assumption) ?_|refine gdtbn_neg (by assumption) ?_|refine gdfbn_pos (by assumption) ?_|refine gdfbn_neg (by assumption) ?_|refine gdtb_pos (by assumption) ?_|refine gdtb_neg (by assumption) ?_|refine gdtb_split (fun hg => ?_) (fun hg => ?_)|refine gdfb_pos (by assumption) ?_|refine gdfb_neg (by assumption) ?_|refine gdfb_split (fun hg => ?_) (fun hg => ?_)|refine pickT ?_|refine pickF ?_|refine pick_pos (by first|assumption|omega) ?_|refine pick_neg (by first|assumption|omega) ?_|refine pickn_pos (by first|assumption|omega) ?_|refine pickn_neg (by first|assumption|omega) ?_|refine pickbn_pos (by assumption) ?_|refine pickbn_neg (by assumption) ?_|refine pickb_pos (by assumption) ?_|refine pickb_neg (by assumption) ?_|refine condT ?_|refine condF ?_|refine cond_pos (by first|assumption|omega) ?_|refine cond_neg (by first|assumption|omega) ?_|refine condM_dec (fun hg => ?_) (fun hg => ?_)|refine condn_pos (by first|assumption|omega) ?_|refine condn_neg (by first|assumption|omega) ?_|refine condM_ndec (fun hg => ?_) (fun hg => ?_)|refine condbn_pos (by assumption) ?_|refine condbn_neg (by assumption) ?_|refine condbn_split (fun hg => ?_) (fun hg => ?_)|refine condb_pos (by assumption) ?_|refine condb_neg (by assumption) ?_|refine condM_b (fun hg => ?_) (fun hg => ?_))
  | ((with_reducible refine oM_gen (fun Kv hK => ?_)); simp [go_sem, c0, hl, flV, bsV]; (try simp (disch := omega) only [wrapI64, wrapU8, wrapU32, wrapU64]); (first | refine hK _ _ ?_ | refine And.intro (by omega) (hK _ _ ?_)); clear hK; clear Kv)))
  exact k
theorem may_ok (d : IsDk w b A h) (f : Int) (k : K (.int .i64 (mayA A f)) w) : callM Tryd.prog 84 #[dkP b, .int .i64 f] K w := by
  apply sh_84_ok
  unfold sh_84 dkP
  have c4 := d.c 4
  simp only [dkCells] at c4
  unfold mayA at k
  repeat (any_goals (first
  | (with_reducible refine pureM_in ?_)
  | (with_reducible first|refine pureQ_in ?_|refine gdQ_conv (fun _ => ?_)|refine pickQT ?_|refine pickQF ?_|refine pickQ_pos (by first|assumption|omega) ?_|refine pickQ_neg (by first|assumption|omega) ?_|refine pickQn_pos (by first|assumption|omega) ?_|refine pickQn_neg (by first|assumption|omega) ?_) | ((with_reducible refine oQ_one ?_ ?_); exact ⟨_, rfl⟩) | (with_reducible first|refine And.intro (Eq.refl (α := World) _) ?_|refine forall_one ?_|refine oQ_nil ?_) | (with_reducible refine oQ_of ⟨_, rfl⟩ (fun W0 hW0 => by (refine oM_gen (fun Kv hK => ?_)); simp [go_sem]; (first | exact hK _ _ ⟨rfl, rfl⟩ | exact ⟨by omega, hK _ _ ⟨rfl, rfl⟩⟩)) ?_)
  | (with_reducible first|refine gdtT ?_|refine gdtF ?_|refine gdfF ?_|refine gdfT ?_|refine gdu ?_ _|refine gdt_pos (by first|assumption|omega) ?_|refine gdt_neg (by first|assumption|omega) ?_|refine gdt_split (fun hg => ?_) (fun hg => ?_)|refine gdf_pos (by first|assumption|omega) ?_|refine gdf_neg (by first|assumption|omega) ?_|refine gdf_split (fun hg => ?_) (fun hg => ?_)|refine gdtn_pos (by first|assumption|omega) ?_|refine gdtn_neg (by first|assumption|omega) ?_|refine gdtn_split (fun hg => ?_) (fun hg => ?_)|refine gdfn_pos (by first|assumption|omega) ?_|refine gdfn_neg (by first|assumption|omega) ?_|refine gdfn_split (fun hg => ?_) (fun hg => ?_)|refine gdtbn_pos (by assumption) ?_|refine gdtbn_neg (by assumption) ?_|refine gdfbn_pos (by assumption) ?_|refine gdfbn_neg (by assumption) ?_|refine gdtb_pos (by assumption) ?_|refine gdtb_neg (by assumption) ?_|refine gdtb_split (fun hg => ?_) (fun hg => ?_)|refine gdfb_pos (by assumption) ?_|refine gdfb_neg (by assumption) ?_|refine gdfb_split (fun hg => ?_) (fun hg => ?_)|refine pickT ?_|refine pickF ?_|refine pick_pos (by first|assumption|omega) ?_|refine pick_neg (by first|assumption|omega) ?_|refine pickn_pos (by first|assumption|omega) ?_|refine pickn_neg (by first|assumption|omega) ?_|refine pickbn_pos (by assumption) ?_|refine pickbn_neg (by assumption) ?_|refine pickb_pos (by assumption) ?_|refine pickb_neg (by assumption) ?_|refine condT ?_|refine condF ?_|refine cond_pos (by first|assumption|omega) ?_|refine cond_neg (by first|assumption|omega) ?_|refine condM_dec (fun hg => ?_) (fun hg => ?_)|refine condn_pos (by first|assumption|omega) ?_|refine condn_neg (by first|assumption|omega) ?_|refine condM_ndec (fun hg => ?_) (fun hg => ?_)|refine condbn_pos (by assumption) ?_|refine condbn_neg (by assumption) ?_|refine condbn_split (fun hg => ?_) (fun hg => ?_)|refine condb_pos (by assumption) ?_|refine condb_neg (by assumption) ?_|refine condM_b (fun hg => ?_) (fun hg => ?_))
  | ((with_reducible refine oM_gen (fun Kv hK => ?_)); simp [go_sem, c4]; (try simp (disch := omega) only [wrapI64, wrapU8, wrapU32, wrapU64]); (first | refine hK _ _ ?_ | refine And.intro (by omega) (hK _ _ ?_)); clear hK; clear Kv)))
  all_goals (try simp_all)
theorem start_ok (d : IsDk w b A h) (k : ∀ w', IsDk w' b (startA A) h → Step w b h w' h → K (.tuple #[]) w') : callM Tryd.prog 63 #[dkP b] K w := by
  apply sh_63_ok
  unfold sh_63 dkP
  have c4 := d.c 4
  have f4 := d.fz 4
  simp only [dkCells] at c4
  repeat (any_goals (first
  | (with_reducible refine pureM_in ?_)
  | (with_reducible first|refine pureQ_in ?_|refine gdQ_conv (fun _ => ?_)|refine pickQT ?_|refine pickQF ?_|refine pickQ_pos (by first|assumption|omega) ?_|refine pickQ_neg (by first|assumption|omega) ?_|refine pickQn_pos (by first|assumption|omega) ?_|refine pickQn_neg (by first|assumption|omega) ?_) | ((with_reducible refine oQ_one ?_ ?_); exact ⟨_, rfl⟩) | (with_reducible first|refine And.intro (Eq.refl (α := World) _) ?_|refine forall_one ?_|refine oQ_nil ?_) | (with_reducible refine oQ_of ⟨_, rfl⟩ (fun W0 hW0 => by (refine oM_gen (fun Kv hK => ?_)); simp [go_sem]; (first | exact hK _ _ ⟨rfl, rfl⟩ | exact ⟨by omega, hK _ _ ⟨rfl, rfl⟩⟩)) ?_)
  | (with_reducible first|refine gdtT ?_|refine gdtF ?_|refine gdfF ?_|refine gdfT ?_|refine gdu ?_ _|refine gdt_pos (by first|assumption|omega) ?_|refine gdt_neg (by first|assumption|omega) ?_|refine gdt_split (fun hg => ?_) (fun hg => ?_)|refine gdf_pos (by first|assumption|omega) ?_|refine gdf_neg (by first|assumption|omega) ?_|refine gdf_split (fun hg => ?_) (fun hg => ?_)|refine gdtn_pos (by first|assumption|omega) ?_|refine gdtn_neg (by first|assumption|omega) ?_|refine gdtn_split (fun hg => ?_) (fun hg => ?_)|refine gdfn_pos (by first|assumption|omega) ?_|refine gdfn_neg (by first|assumption|omega) ?_|refine gdfn_split (fun hg => ?_) (fun hg => ?_)|refine gdtbn_pos (by assumption) ?_|refine gdtbn_neg (by assumption) ?_|refine gdfbn_pos (by assumption) ?_|refine gdfbn_neg (by assumption) ?_|refine gdtb_pos (by assumption) ?_|refine gdtb_neg (by assumption) ?_|refine gdtb_split (fun hg => ?_) (fun hg => ?_)|refine gdfb_pos (by assumption) ?_|refine gdfb_neg (by assumption) ?_|refine gdfb_split (fun hg => ?_) (fun hg => ?_)|refine pickT ?_|refine pickF ?_|refine pick_pos (by first|assumption|omega) ?_|refine pick_neg (by first|assumption|omega) ?_|refine pickn_pos (by first|assumption|omega) ?_|refine pickn_neg (by first|assumption|omega) ?_|refine pickbn_pos (by assumption) ?_|refine pickbn_neg (by assumption) ?_|refine pickb_pos (by assumption) ?_|refine pickb_neg (by assumption) ?_|refine condT ?_|refine condF ?_|refine cond_pos (by first|assumption|omega) ?_|refine cond_neg (by first|assumption|omega) ?_|refine condM_dec (fun hg => ?_) (fun hg => ?_)|refine condn_pos (by first|assumption|omega) ?_|refine condn_neg (by first|assumption|omega) ?_|refine condM_ndec (fun hg => ?_) (fun hg => ?_)|refine condbn_pos (by assumption) ?_|refine condbn_neg (by assumption) ?_|refine condbn_split (fun hg => ?_) (fun hg => ?_)|refine condb_pos (by assumption) ?_|refine condb_neg (by assumption) ?_|refine condM_b (fun hg => ?_) (fun hg => ?_))
  | ((with_reducible refine oM_gen (fun Kv hK => ?_)); simp [go_sem, c4, f4]; (try simp (disch := omega) only [wrapI64, wrapU8, wrapU32, wrapU64]); (first | refine hK _ _ ?_ | refine And.intro (by omega) (hK _ _ ?_)); clear hK; clear Kv)))
  exact k _ (d.set4 false) (step_set _ _ _ _ _)
theorem lose_ok (d : IsDk w b A h) (n : Int) (hn : n < 2 ^ 63) (k : ∀ w', IsDk w' b (loseA A n) h → Step w b h w' h → K (.tuple #[]) w') : callM Tryd.prog 58 #[dkP b, .int .i64 n] K w := by
  apply sh_58_ok
  unfold sh_58 dkP
  have c3 := d.c 3
  have f3 := d.fz 3
  simp only [dkCells] at c3
  repeat (any_goals (first
  | (with_reducible refine pureM_in ?_)
  | (with_reducible first|refine pureQ_in ?_|refine gdQ_conv (fun _ => ?_)|refine pickQT ?_|refine pickQF ?_|refine pickQ_pos (by first|assumption|omega) ?_|refine pickQ_neg (by first|assumption|omega) ?_|refine pickQn_pos (by first|assumption|omega) ?_|refine pickQn_neg (by first|assumption|omega) ?_) | ((with_reducible refine oQ_one ?_ ?_); exact ⟨_, rfl⟩) | (with_reducible first|refine And.intro (Eq.refl (α := World) _) ?_|refine forall_one ?_|refine oQ_nil ?_) | (with_reducible refine oQ_of ⟨_, rfl⟩ (fun W0 hW0 => by (refine oM_gen (fun Kv hK => ?_)); simp [go_sem]; (first | exact hK _ _ ⟨rfl, rfl⟩ | exact ⟨by omega, hK _ _ ⟨rfl, rfl⟩⟩)) ?_)
  | (with_reducible first|refine gdtT ?_|refine gdtF ?_|refine gdfF ?_|refine gdfT ?_|refine gdu ?_ _|refine gdt_pos (by first|assumption|omega) ?_|refine gdt_neg (by first|assumption|omega) ?_|refine gdt_split (fun hg => ?_) (fun hg => ?_)|refine gdf_pos (by first|assumption|omega) ?_|refine gdf_neg (by first|assumption|omega) ?_|refine gdf_split (fun hg => ?_) (fun hg => ?_)|refine gdtn_pos (by first|assumption|omega) ?_|refine gdtn_neg (by first|assumption|omega) ?_|refine gdtn_split (fun hg => ?_) (fun hg => ?_)|refine gdfn_pos (by first|assumption|omega) ?_|refine gdfn_neg (by first|assumption|omega) ?_|refine gdfn_split (fun hg => ?_) (fun hg => ?_)|refine gdtbn_pos (by assumption) ?_|refine gdtbn_neg (by assumption) ?_|refine gdfbn_pos (by assumption) ?_|refine gdfbn_neg (by assumption) ?_|refine gdtb_pos (by assumption) ?_|refine gdtb_neg (by assumption) ?_|refine gdtb_split (fun hg => ?_) (fun hg => ?_)|refine gdfb_pos (by assumption) ?_|refine gdfb_neg (by assumption) ?_|refine gdfb_split (fun hg => ?_) (fun hg => ?_)|refine pickT ?_|refine pickF ?_|refine pick_pos (by first|assumption|omega) ?_|refine pick_neg (by first|assumption|omega) ?_|refine pickn_pos (by first|assumption|omega) ?_|refine pickn_neg (by first|assumption|omega) ?_|refine pickbn_pos (by assumption) ?_|refine pickbn_neg (by assumption) ?_|refine pickb_pos (by assumption) ?_|refine pickb_neg (by assumption) ?_|refine condT ?_|refine condF ?_|refine cond_pos (by first|assumption|omega) ?_|refine cond_neg (by first|assumption|omega) ?_|refine condM_dec (fun hg => ?_) (fun hg => ?_)|refine condn_pos (by first|assumption|omega) ?_|refine condn_neg (by first|assumption|omega) ?_|refine condM_ndec (fun hg => ?_) (fun hg => ?_)|refine condbn_pos (by assumption) ?_|refine condbn_neg (by assumption) ?_|refine condbn_split (fun hg => ?_) (fun hg => ?_)|refine condb_pos (by assumption) ?_|refine condb_neg (by assumption) ?_|refine condM_b (fun hg => ?_) (fun hg => ?_))
  | ((with_reducible refine oM_gen (fun Kv hK => ?_)); simp [go_sem, c3, f3]; (try simp (disch := omega) only [wrapI64, wrapU8, wrapU32, wrapU64]); (first | refine hK _ _ ?_ | refine And.intro (by omega) (hK _ _ ?_)); clear hK; clear Kv)))
  exact k _ (d.set3 (max n 0) (by omega)) (step_set _ _ _ _ _)
theorem ends_ok (d : IsDk w b A h) (k : ∀ w', IsDk w' b (endsA A).2 h → Step w b h w' h → K (.bool (endsA A).1) w') : callM Tryd.prog 85 #[dkP b] K w := by
  apply sh_85_ok
  unfold sh_85 dkP
  have c4 := d.c 4
  have c5 := d.c 5
  have f5 := d.fz 5
  simp only [dkCells] at c4 c5
  have a0 := d.wf.a0
  have a1 := d.wf.a1
  unfold endsA at k
  repeat (any_goals (first
  | (with_reducible refine pureM_in ?_)
  | (with_reducible first|refine pureQ_in ?_|refine gdQ_conv (fun _ => ?_)|refine pickQT ?_|refine pickQF ?_|refine pickQ_pos (by first|assumption|omega) ?_|refine pickQ_neg (by first|assumption|omega) ?_|refine pickQn_pos (by first|assumption|omega) ?_|refine pickQn_neg (by first|assumption|omega) ?_) | ((with_reducible refine oQ_one ?_ ?_); exact ⟨_, rfl⟩) | (with_reducible first|refine And.intro (Eq.refl (α := World) _) ?_|refine forall_one ?_|refine oQ_nil ?_) | (with_reducible refine oQ_of ⟨_, rfl⟩ (fun W0 hW0 => by (refine oM_gen (fun Kv hK => ?_)); simp [go_sem]; (first | exact hK _ _ ⟨rfl, rfl⟩ | exact ⟨by omega, hK _ _ ⟨rfl, rfl⟩⟩)) ?_)
  | (with_reducible first|refine gdtT ?_|refine gdtF ?_|refine gdfF ?_|refine gdfT ?_|refine gdu ?_ _|refine gdt_pos (by first|assumption|omega) ?_|refine gdt_neg (by first|assumption|omega) ?_|refine gdt_split (fun hg => ?_) (fun hg => ?_)|refine gdf_pos (by first|assumption|omega) ?_|refine gdf_neg (by first|assumption|omega) ?_|refine gdf_split (fun hg => ?_) (fun hg => ?_)|refine gdtn_pos (by first|assumption|omega) ?_|refine gdtn_neg (by first|assumption|omega) ?_|refine gdtn_split (fun hg => ?_) (fun hg => ?_)|refine gdfn_pos (by first|assumption|omega) ?_|refine gdfn_neg (by first|assumption|omega) ?_|refine gdfn_split (fun hg => ?_) (fun hg => ?_)|refine gdtbn_pos (by assumption) ?_|refine gdtbn_neg (by assumption) ?_|refine gdfbn_pos (by assumption) ?_|refine gdfbn_neg (by assumption) ?_|refine gdtb_pos (by assumption) ?_|refine gdtb_neg (by assumption) ?_|refine gdtb_split (fun hg => ?_) (fun hg => ?_)|refine gdfb_pos (by assumption) ?_|refine gdfb_neg (by assumption) ?_|refine gdfb_split (fun hg => ?_) (fun hg => ?_)|refine pickT ?_|refine pickF ?_|refine pick_pos (by first|assumption|omega) ?_|refine pick_neg (by first|assumption|omega) ?_|refine pickn_pos (by first|assumption|omega) ?_|refine pickn_neg (by first|assumption|omega) ?_|refine pickbn_pos (by assumption) ?_|refine pickbn_neg (by assumption) ?_|refine pickb_pos (by assumption) ?_|refine pickb_neg (by assumption) ?_|refine condT ?_|refine condF ?_|refine cond_pos (by first|assumption|omega) ?_|refine cond_neg (by first|assumption|omega) ?_|refine condM_dec (fun hg => ?_) (fun hg => ?_)|refine condn_pos (by first|assumption|omega) ?_|refine condn_neg (by first|assumption|omega) ?_|refine condM_ndec (fun hg => ?_) (fun hg => ?_)|refine condbn_pos (by assumption) ?_|refine condbn_neg (by assumption) ?_|refine condbn_split (fun hg => ?_) (fun hg => ?_)|refine condb_pos (by assumption) ?_|refine condb_neg (by assumption) ?_|refine condM_b (fun hg => ?_) (fun hg => ?_))
  | ((with_reducible refine oM_gen (fun Kv hK => ?_)); simp [go_sem, c4, c5, f5]; (try simp (disch := omega) only [wrapI64, wrapU8, wrapU32, wrapU64]); (first | refine hK _ _ ?_ | refine And.intro (by omega) (hK _ _ ?_)); clear hK; clear Kv)))
  · rw [if_pos (.inl hg)] at k
    exact k _ d (Step.refl _ _ _)
  · rw [if_pos (.inr hg)] at k
    exact k _ d (Step.refl _ _ _)
  · rename_i hg2
    rw [if_neg (by rw [hg2]; simp [hg])] at k
    have e : decide (A.armed - 1 = 0) = decide (A.armed = 1) := by
      by_cases h1 : A.armed = 1
      · simp [h1]
      · have : ¬ A.armed - 1 = 0 := by omega
        simp [h1, this]
    rw [e]
    exact k _ (d.set5 (A.armed - 1) (by omega)) (step_set _ _ _ _ _)
end
end Go.Proofs
namespace Go.Proofs
open Go Go.Sh Go.RowKit DkSpec
set_option linter.unusedSimpArgs false
set_option maxRecDepth 10000
def intC (n : Int) : List Value := [i64V n]
theorem ba_ext (x : List UInt8) (i j : Nat) : (⟨x.toArray⟩ : ByteArray).extract i j = ⟨((x.drop i).take (j - i)).toArray⟩ := by
  apply ByteArray.ext
  rw [ByteArray.data_extract]
  simp [List.extract_eq_take_drop]
theorem read_cut (l : List UInt8) (a n : Int) (ha : 0 ≤ a) (hn : 0 ≤ n) : ((⟨l.toArray⟩ : ByteArray).extract (min a l.length).toNat l.length).extract 0 (min n ((l.length - (min a (l.length : Int)).toNat : Nat) : Int)).toNat = ⟨((l.drop a.toNat).take n.toNat).toArray⟩ := by
  rw [ba_ext, ba_ext]
  congr 2
  rw [List.drop_zero, List.take_take]
  by_cases h : a ≤ l.length
  · have e : (min a (l.length : Int)).toNat = a.toNat := by omega
    rw [e, List.take_eq_take_iff, List.length_drop]
    omega
  · have e : (min a (l.length : Int)).toNat = l.length := by omega
    rw [e, List.drop_of_length_le (Nat.le_refl _), List.drop_of_length_le (by omega)]
    simp
theorem read_cut2 (l : List UInt8) (a n : Int) (ha : 0 ≤ a) (hn : 0 ≤ n) : (l.drop (min a (l.length : Int)).toNat).take (min n ((l.length - (min a (l.length : Int)).toNat : Nat) : Int)).toNat = (l.drop a.toNat).take n.toNat := by
  by_cases h : a ≤ l.length
  · have e : (min a (l.length : Int)).toNat = a.toNat := by omega
    rw [e, List.take_eq_take_iff, List.length_drop]
    omega
  · have e : (min a (l.length : Int)).toNat = l.length := by omega
    rw [e, List.drop_of_length_le (Nat.le_refl _), List.drop_of_length_le (by omega)]
    simp
theorem eqNil_at {P : Program} {w : World} {K : Value → World → Prop} {t e T : TypeId} {a : Option Addr} {n c : Nat} (ht : P.underlying t = some (.slice e)) (k : K (.bool a.isNone) w) : oM P (.binOp .eql t (.tmp 0) (.const (.slice none 0 0)) t) T [.slice a n c] K w := by
  rw [oM_eqc]
  have := Lib.run_eql_slice_nil (P := P) w t e a n c 0 0 ht
  simp only [Sem.run_bind]
  have h2 : (eqGuard .eql t (.tmp 0) (.const (.slice none 0 0)) (.slice a n c) (.slice none 0 0)).run P w = .ok () w := by
    simp [eqGuard]
  rw [h2, Result.andThen_ok, this]
  exact k
section
variable {w : World} {b : Nat} {A : Ab} {h : Dk} {K : Value → World → Prop}
theorem new_ok (k : ∀ w' b h, IsDk w' b newA h → Fr (fun _ => False) w w' → (∀ i, Own b h i → w.heap.size ≤ i) → (∀ i, ¬ Rdb h i) → K (dkP b) w') : callM Tryd.prog 48 #[] K w := by
  apply sh_48_ok
  unfold sh_48
  repeat (any_goals (first
  | (with_reducible refine pureM_in ?_)
  | (with_reducible first|refine pureQ_in ?_|refine gdQ_conv (fun _ => ?_)|refine pickQT ?_|refine pickQF ?_|refine pickQ_pos (by first|assumption|omega) ?_|refine pickQ_neg (by first|assumption|omega) ?_|refine pickQn_pos (by first|assumption|omega) ?_|refine pickQn_neg (by first|assumption|omega) ?_) | ((with_reducible refine oQ_one ?_ ?_); exact ⟨_, rfl⟩) | (with_reducible first|refine And.intro (Eq.refl (α := World) _) ?_|refine forall_one ?_|refine oQ_nil ?_) | (with_reducible refine oQ_of ⟨_, rfl⟩ (fun W0 hW0 => by (refine oM_gen (fun Kv hK => ?_)); simp [go_sem]; (first | exact hK _ _ ⟨rfl, rfl⟩ | exact ⟨by omega, hK _ _ ⟨rfl, rfl⟩⟩)) ?_)
  | (with_reducible first|refine gdtT ?_|refine gdtF ?_|refine gdfF ?_|refine gdfT ?_|refine gdu ?_ _|refine gdt_pos (by first|assumption|omega) ?_|refine gdt_neg (by first|assumption|omega) ?_|refine gdt_split (fun hg => ?_) (fun hg => ?_)|refine gdf_pos (by first|assumption|omega) ?_|refine gdf_neg (by first|assumption|omega) ?_|refine gdf_split (fun hg => ?_) (fun hg => ?_)|refine gdtn_pos (by first|assumption|omega) ?_|refine gdtn_neg (by first|assumption|omega) ?_|refine gdtn_split (fun hg => ?_) (fun hg => ?_)|refine gdfn_pos (by first|assumption|omega) ?_|refine gdfn_neg (by first|assumption|omega) ?_|refine gdfn_split (fun hg => ?_) (fun hg => ?_)|refine gdtbn_pos (by assumption) ?_|refine gdtbn_neg (by assumption) ?_|refine gdfbn_pos (by assumption) ?_|refine gdfbn_neg (by assumption) ?_|refine gdtb_pos (by assumption) ?_|refine gdtb_neg (by assumption) ?_|refine gdtb_split (fun hg => ?_) (fun hg => ?_)|refine gdfb_pos (by assumption) ?_|refine gdfb_neg (by assumption) ?_|refine gdfb_split (fun hg => ?_) (fun hg => ?_)|refine pickT ?_|refine pickF ?_|refine pick_pos (by first|assumption|omega) ?_|refine pick_neg (by first|assumption|omega) ?_|refine pickn_pos (by first|assumption|omega) ?_|refine pickn_neg (by first|assumption|omega) ?_|refine pickbn_pos (by assumption) ?_|refine pickbn_neg (by assumption) ?_|refine pickb_pos (by assumption) ?_|refine pickb_neg (by assumption) ?_|refine condT ?_|refine condF ?_|refine cond_pos (by first|assumption|omega) ?_|refine cond_neg (by first|assumption|omega) ?_|refine condM_dec (fun hg => ?_) (fun hg => ?_)|refine condn_pos (by first|assumption|omega) ?_|refine condn_neg (by first|assumption|omega) ?_|refine condM_ndec (fun hg => ?_) (fun hg => ?_)|refine condbn_pos (by assumption) ?_|refine condbn_neg (by assumption) ?_|refine condbn_split (fun hg => ?_) (fun hg => ?_)|refine condb_pos (by assumption) ?_|refine condb_neg (by assumption) ?_|refine condM_b (fun hg => ?_) (fun hg => ?_))
  | ((with_reducible refine oM_gen (fun Kv hK => ?_)); simp [go_sem]; (try simp (disch := omega) only [wrapI64, wrapU8, wrapU32, wrapU64]); (first | refine hK _ _ ?_ | refine And.intro (by omega) (hK _ _ ?_)); clear hK; clear Kv)))
  have s1 : (w.alloc (.map #[] 0)).heap.size = w.heap.size + 1 := alloc_size _ _
  have s2 : ((w.alloc (.map #[] 0)).alloc (.map #[] 0)).heap.size = w.heap.size + 1 + 1 := by rw [alloc_size, alloc_size]
  have m1 : MapIs i64V (w.alloc (.map #[] 0)) w.heap.size [] := mapIs_new w
  have m2 : MapIs secV ((w.alloc (.map #[] 0)).alloc (.map #[] 0)) (w.heap.size + 1) [] := by
    have := mapIs_new (mk := secV) (w.alloc (.map #[] 0))
    rw [s1] at this
    exact this
  refine k _ (w.heap.size + 1 + 1) ⟨w.heap.size, w.heap.size + 1, .slice none 0 0, .slice none 0 0⟩ ⟨?_, ?_, ?_, ?_, ?_, ?_, newA_wf⟩ (((Fr.refl _ _).alloc _).alloc _ |>.alloc _) ?_ ?_
  · have := heap_alloc_new ((w.alloc (.map #[] 0)).alloc (.map #[] 0)) (.cells (dkCells newA ⟨w.heap.size, w.heap.size + 1, .slice none 0 0, .slice none 0 0⟩) 92 (0, 0))
    rw [s2] at this
    exact this
  · exact ⟨[], (m1.alloc _).alloc _, fun f => rfl⟩
  · exact ⟨[], m2.alloc _, fun p => by simp [newA, lookA_nil]⟩
  · exact World.ownsRow_nil _ _ _ _
  · exact World.ownsRow_nil _ _ _ _
  · simp
  · rintro i (rfl | rfl | rfl | hi)
    · omega
    · exact Nat.le_refl _
    · simp
    · cases hi
  · intro i hi; cases hi
theorem cloneInt_ok {v : Value} {l : List Int} (hr : RowR intC 1 w v l) (hl : l.length < 2 ^ 40) (k : ∀ v' w', w'.ownsRow 0 3 1 v' l.length (flat intC l) → Fr (fun _ => False) w w' → (∀ i, v'.ownBlock = some i → w.heap.size ≤ i) → K v' w') : callM Tryd.prog 87 #[v] K w := by
  apply sh_87_ok
  unfold sh_87
  obtain ⟨ad, c, rfl, h0, hc⟩ := id hr
  refine eqNil_at (e := 3) (by kernel_rfl) ?_
  cases ad with
  | none =>
    obtain ⟨hl0, rfl⟩ := h0 rfl
    obtain rfl : l = [] := List.eq_nil_of_length_eq_zero hl0
    simp only [Option.isNone_none]
    repeat (any_goals (first
    | (with_reducible refine pureM_in ?_)
    | (with_reducible first|refine pureQ_in ?_|refine gdQ_conv (fun _ => ?_)|refine pickQT ?_|refine pickQF ?_|refine pickQ_pos (by first|assumption|omega) ?_|refine pickQ_neg (by first|assumption|omega) ?_|refine pickQn_pos (by first|assumption|omega) ?_|refine pickQn_neg (by first|assumption|omega) ?_) | ((with_reducible refine oQ_one ?_ ?_); exact ⟨_, rfl⟩) | (with_reducible first|refine And.intro (Eq.refl (α := World) _) ?_|refine forall_one ?_|refine oQ_nil ?_) | (with_reducible refine oQ_of ⟨_, rfl⟩ (fun W0 hW0 => by (refine oM_gen (fun Kv hK => ?_)); simp [go_sem]; (first | exact hK _ _ ⟨rfl, rfl⟩ | exact ⟨by omega, hK _ _ ⟨rfl, rfl⟩⟩)) ?_)
    | (with_reducible first|refine gdtT ?_|refine gdtF ?_|refine gdfF ?_|refine gdfT ?_|refine gdu ?_ _|refine gdt_pos (by first|assumption|omega) ?_|refine gdt_neg (by first|assumption|omega) ?_|refine gdt_split (fun hg => ?_) (fun hg => ?_)|refine gdf_pos (by first|assumption|omega) ?_|refine gdf_neg (by first|assumption|omega) ?_|refine gdf_split (fun hg => ?_) (fun hg => ?_)|refine gdtn_pos (by first|assumption|omega) ?_|refine gdtn_neg (by first|assumption|omega) ?_|refine gdtn_split (fun hg => ?_) (fun hg => ?_)|refine gdfn_pos (by first|assumption|omega) ?_|refine gdfn_neg (by first|assumption|omega) ?_|refine gdfn_split (fun hg => ?_) (fun hg => ?_)|refine gdtbn_pos (by assumption) ?_|refine gdtbn_neg (by assumption) ?_|refine gdfbn_pos (by assumption) ?_|refine gdfbn_neg (by assumption) ?_|refine gdtb_pos (by assumption) ?_|refine gdtb_neg (by assumption) ?_|refine gdtb_split (fun hg => ?_) (fun hg => ?_)|refine gdfb_pos (by assumption) ?_|refine gdfb_neg (by assumption) ?_|refine gdfb_split (fun hg => ?_) (fun hg => ?_)|refine pickT ?_|refine pickF ?_|refine pick_pos (by first|assumption|omega) ?_|refine pick_neg (by first|assumption|omega) ?_|refine pickn_pos (by first|assumption|omega) ?_|refine pickn_neg (by first|assumption|omega) ?_|refine pickbn_pos (by assumption) ?_|refine pickbn_neg (by assumption) ?_|refine pickb_pos (by assumption) ?_|refine pickb_neg (by assumption) ?_|refine condT ?_|refine condF ?_|refine cond_pos (by first|assumption|omega) ?_|refine cond_neg (by first|assumption|omega) ?_|refine condM_dec (fun hg => ?_) (fun hg => ?_)|refine condn_pos (by first|assumption|omega) ?_|refine condn_neg (by first|assumption|omega) ?_|refine condM_ndec (fun hg => ?_) (fun hg => ?_)|refine condbn_pos (by assumption) ?_|refine condbn_neg (by assumption) ?_|refine condbn_split (fun hg => ?_) (fun hg => ?_)|refine condb_pos (by assumption) ?_|refine condb_neg (by assumption) ?_|refine condM_b (fun hg => ?_) (fun hg => ?_))
    | ((with_reducible refine oM_gen (fun Kv hK => ?_)); simp [go_sem]; (try simp (disch := omega) only [wrapI64, wrapU8, wrapU32, wrapU64]); (first | refine hK _ _ ?_ | refine And.intro (by omega) (hK _ _ ?_)); clear hK; clear Kv)))
    exact k _ _ (World.ownsRow_nil _ _ _ _) (Fr.refl _ _) (fun i hi => by cases hi)
  | some a =>
    simp only [Option.isNone_some]
    repeat (any_goals (first
    | (with_reducible refine pureM_in ?_)
    | (with_reducible first|refine pureQ_in ?_|refine gdQ_conv (fun _ => ?_)|refine pickQT ?_|refine pickQF ?_|refine pickQ_pos (by first|assumption|omega) ?_|refine pickQ_neg (by first|assumption|omega) ?_|refine pickQn_pos (by first|assumption|omega) ?_|refine pickQn_neg (by first|assumption|omega) ?_) | ((with_reducible refine oQ_one ?_ ?_); exact ⟨_, rfl⟩) | (with_reducible first|refine And.intro (Eq.refl (α := World) _) ?_|refine forall_one ?_|refine oQ_nil ?_) | (with_reducible refine oQ_of ⟨_, rfl⟩ (fun W0 hW0 => by (refine oM_gen (fun Kv hK => ?_)); simp [go_sem]; (first | exact hK _ _ ⟨rfl, rfl⟩ | exact ⟨by omega, hK _ _ ⟨rfl, rfl⟩⟩)) ?_)
    | (with_reducible first|refine gdtT ?_|refine gdtF ?_|refine gdfF ?_|refine gdfT ?_|refine gdu ?_ _|refine gdt_pos (by first|assumption|omega) ?_|refine gdt_neg (by first|assumption|omega) ?_|refine gdt_split (fun hg => ?_) (fun hg => ?_)|refine gdf_pos (by first|assumption|omega) ?_|refine gdf_neg (by first|assumption|omega) ?_|refine gdf_split (fun hg => ?_) (fun hg => ?_)|refine gdtn_pos (by first|assumption|omega) ?_|refine gdtn_neg (by first|assumption|omega) ?_|refine gdtn_split (fun hg => ?_) (fun hg => ?_)|refine gdfn_pos (by first|assumption|omega) ?_|refine gdfn_neg (by first|assumption|omega) ?_|refine gdfn_split (fun hg => ?_) (fun hg => ?_)|refine gdtbn_pos (by assumption) ?_|refine gdtbn_neg (by assumption) ?_|refine gdfbn_pos (by assumption) ?_|refine gdfbn_neg (by assumption) ?_|refine gdtb_pos (by assumption) ?_|refine gdtb_neg (by assumption) ?_|refine gdtb_split (fun hg => ?_) (fun hg => ?_)|refine gdfb_pos (by assumption) ?_|refine gdfb_neg (by assumption) ?_|refine gdfb_split (fun hg => ?_) (fun hg => ?_)|refine pickT ?_|refine pickF ?_|refine pick_pos (by first|assumption|omega) ?_|refine pick_neg (by first|assumption|omega) ?_|refine pickn_pos (by first|assumption|omega) ?_|refine pickn_neg (by first|assumption|omega) ?_|refine pickbn_pos (by assumption) ?_|refine pickbn_neg (by assumption) ?_|refine pickb_pos (by assumption) ?_|refine pickb_neg (by assumption) ?_|refine condT ?_|refine condF ?_|refine cond_pos (by first|assumption|omega) ?_|refine cond_neg (by first|assumption|omega) ?_|refine condM_dec (fun hg => ?_) (fun hg => ?_)|refine condn_pos (by first|assumption|omega) ?_|refine condn_neg (by first|assumption|omega) ?_|refine condM_ndec (fun hg => ?_) (fun hg => ?_)|refine condbn_pos (by assumption) ?_|refine condbn_neg (by assumption) ?_|refine condbn_split (fun hg => ?_) (fun hg => ?_)|refine condb_pos (by assumption) ?_|refine condb_neg (by assumption) ?_|refine condM_b (fun hg => ?_) (fun hg => ?_))
    | ((with_reducible refine oM_gen (fun Kv hK => ?_)); simp [go_sem]; (try simp (disch := omega) only [wrapI64, wrapU8, wrapU32, wrapU64]); (first | refine hK _ _ ?_ | refine And.intro (by omega) (hK _ _ ?_)); clear hK; clear Kv)))
    have hr2 : RowR intC 1 (w.alloc (.cells #[] 3)) (.slice (some a) l.length c) l := hr.keep (by rw [alloc_size]; omega) (fun i _ hi => heap_alloc_old _ _ hi)
    refine clone_at 22 22 3 ((Tryd.prog.info? 3).getD default) (.int .i64 0) 1 8 (by kernel_rfl) (by kernel_rfl) (by kernel_rfl) (by kernel_rfl) (by kernel_rfl) (by kernel_rfl) (by omega) (fun _ => rfl) (fun x u hu => by simp [intC] at hu; subst hu; rfl) hr2 (World.ownsRow_lit w #[] 0 (Nat.zero_le _) (Nat.zero_le _) rfl) (B := w.heap.size) (by rw [alloc_size]; omega) (fun i hi => by cases hi; exact Nat.le_refl _) (by omega) (by omega) ?_
    intro v' w' ho hg hv
    exact k v' w' ho (((Fr.refl _ _).alloc _).by hg (fun i hi => by cases hi; exact .inr (Nat.le_refl _))) hv
theorem read_ok (d : IsDk w b A h) (f at_ size : Int) (k : K (.tuple #[bsV (readA A f at_ size).1, .int .i64 (readA A f at_ size).2]) w) : callM Tryd.prog 52 #[dkP b, .int .i64 f, .int .i64 at_, .int .i64 size] K w := by
  apply sh_52_ok
  unfold sh_52
  refine may_ok d f ?_
  have c0 := d.c 0
  simp only [dkCells] at c0
  have hl := d.look f
  unfold readA at k
  unfold dkP
  repeat (any_goals (first
  | (with_reducible refine pureM_in ?_)
  | (with_reducible first|refine pureQ_in ?_|refine gdQ_conv (fun _ => ?_)|refine pickQT ?_|refine pickQF ?_|refine pickQ_pos (by first|assumption|omega) ?_|refine pickQ_neg (by first|assumption|omega) ?_|refine pickQn_pos (by first|assumption|omega) ?_|refine pickQn_neg (by first|assumption|omega) ?_) | ((with_reducible refine oQ_one ?_ ?_); exact ⟨_, rfl⟩) | (with_reducible first|refine And.intro (Eq.refl (α := World) _) ?_|refine forall_one ?_|refine oQ_nil ?_) | (with_reducible refine oQ_of ⟨_, rfl⟩ (fun W0 hW0 => by (refine oM_gen (fun Kv hK => ?_)); simp [go_sem]; (first | exact hK _ _ ⟨rfl, rfl⟩ | exact ⟨by omega, hK _ _ ⟨rfl, rfl⟩⟩)) ?_)
  | (with_reducible first|refine gdtT ?_|refine gdtF ?_|refine gdfF ?_|refine gdfT ?_|refine gdu ?_ _|refine gdt_pos (by first|assumption|omega) ?_|refine gdt_neg (by first|assumption|omega) ?_|refine gdt_split (fun hg => ?_) (fun hg => ?_)|refine gdf_pos (by first|assumption|omega) ?_|refine gdf_neg (by first|assumption|omega) ?_|refine gdf_split (fun hg => ?_) (fun hg => ?_)|refine gdtn_pos (by first|assumption|omega) ?_|refine gdtn_neg (by first|assumption|omega) ?_|refine gdtn_split (fun hg => ?_) (fun hg => ?_)|refine gdfn_pos (by first|assumption|omega) ?_|refine gdfn_neg (by first|assumption|omega) ?_|refine gdfn_split (fun hg => ?_) (fun hg => ?_)|refine gdtbn_pos (by assumption) ?_|refine gdtbn_neg (by assumption) ?_|refine gdfbn_pos (by assumption) ?_|refine gdfbn_neg (by assumption) ?_|refine gdtb_pos (by assumption) ?_|refine gdtb_neg (by assumption) ?_|refine gdtb_split (fun hg => ?_) (fun hg => ?_)|refine gdfb_pos (by assumption) ?_|refine gdfb_neg (by assumption) ?_|refine gdfb_split (fun hg => ?_) (fun hg => ?_)|refine pickT ?_|refine pickF ?_|refine pick_pos (by first|assumption|omega) ?_|refine pick_neg (by first|assumption|omega) ?_|refine pickn_pos (by first|assumption|omega) ?_|refine pickn_neg (by first|assumption|omega) ?_|refine pickbn_pos (by assumption) ?_|refine pickbn_neg (by assumption) ?_|refine pickb_pos (by assumption) ?_|refine pickb_neg (by assumption) ?_|refine condT ?_|refine condF ?_|refine cond_pos (by first|assumption|omega) ?_|refine cond_neg (by first|assumption|omega) ?_|refine condM_dec (fun hg => ?_) (fun hg => ?_)|refine condn_pos (by first|assumption|omega) ?_|refine condn_neg (by first|assumption|omega) ?_|refine condM_ndec (fun hg => ?_) (fun hg => ?_)|refine condbn_pos (by assumption) ?_|refine condbn_neg (by assumption) ?_|refine condbn_split (fun hg => ?_) (fun hg => ?_)|refine condb_pos (by assumption) ?_|refine condb_neg (by assumption) ?_|refine condM_b (fun hg => ?_) (fun hg => ?_))
  | ((with_reducible refine oM_gen (fun Kv hK => ?_)); simp [go_sem, c0, hl, flV, bsV]; (try simp (disch := omega) only [wrapI64, wrapU8, wrapU32, wrapU64]); (first | refine hK _ _ ?_ | refine And.intro (by omega) (hK _ _ ?_)); clear hK; clear Kv)))
  · rename_i h0
    rw [if_neg (by omega), if_pos (.inl hg)] at k
    exact k
  · rename_i h0
    rw [if_neg (by omega), if_pos (.inr hg)] at k
    exact k
  · rename_i h0
    rw [if_neg (by omega), if_neg (by omega)] at k
    first | rw [read_cut _ _ _ (by omega) (by omega)] | rw [read_cut2 _ _ _ (by omega) (by omega)]
    exact k
  · rw [if_pos hg] at k
    exact k
end
end Go.Proofs
namespace Go.Proofs
open Go Go.Sh Go.RowKit DkSpec
set_option linter.unusedSimpArgs false
set_option maxRecDepth 10000
section
variable {w : World} {b : Nat} {A : Ab} {h : Dk} {K : Value → World → Prop}
theorem ba_nil (t : List UInt8) : ((⟨t.toArray⟩ : ByteArray) = ⟨#[]⟩) ↔ t = [] := by
  constructor
  · intro h
    have := congrArg (fun b => b.data.toList) h
    simpa using this
  · rintro rfl; rfl
theorem flat_one {α : Type} (f : α → Value) (l : List α) : flat (fun x => [f x]) l = l.map f := by
  induction l with
  | nil => rfl
  | cons x l ih => rw [flat_cons, ih]; rfl
theorem put_ok (s t : Bs) (a : Int) (h0 : 0 ≤ a) (ha : a + t.length ≤ 16777216) (hs : s.length ≤ 16777216) (k : ∀ w', Fr (fun _ => False) w w' → K (bsV (putB s a.toNat t)) w') : callM Tryd.prog 88 #[bsV s, .int .i64 a, bsV t] K w := by
  apply sh_88_ok
  unfold sh_88 bsV
  by_cases ht : t = []
  · subst ht
    repeat (any_goals (first
    | (with_reducible refine pureM_in ?_)
    | (with_reducible first|refine pureQ_in ?_|refine gdQ_conv (fun _ => ?_)|refine pickQT ?_|refine pickQF ?_|refine pickQ_pos (by first|assumption|omega) ?_|refine pickQ_neg (by first|assumption|omega) ?_|refine pickQn_pos (by first|assumption|omega) ?_|refine pickQn_neg (by first|assumption|omega) ?_) | ((with_reducible refine oQ_one ?_ ?_); exact ⟨_, rfl⟩) | (with_reducible first|refine And.intro (Eq.refl (α := World) _) ?_|refine forall_one ?_|refine oQ_nil ?_) | (with_reducible refine oQ_of ⟨_, rfl⟩ (fun W0 hW0 => by (refine oM_gen (fun Kv hK => ?_)); simp [go_sem]; (first | exact hK _ _ ⟨rfl, rfl⟩ | exact ⟨by omega, hK _ _ ⟨rfl, rfl⟩⟩)) ?_)
    | (with_reducible first|refine gdtT ?_|refine gdtF ?_|refine gdfF ?_|refine gdfT ?_|refine gdu ?_ _|refine gdt_pos (by first|assumption|omega) ?_|refine gdt_neg (by first|assumption|omega) ?_|refine gdt_split (fun hg => ?_) (fun hg => ?_)|refine gdf_pos (by first|assumption|omega) ?_|refine gdf_neg (by first|assumption|omega) ?_|refine gdf_split (fun hg => ?_) (fun hg => ?_)|refine gdtn_pos (by first|assumption|omega) ?_|refine gdtn_neg (by first|assumption|omega) ?_|refine gdtn_split (fun hg => ?_) (fun hg => ?_)|refine gdfn_pos (by first|assumption|omega) ?_|refine gdfn_neg (by first|assumption|omega) ?_|refine gdfn_split (fun hg => ?_) (fun hg => ?_)|refine gdtbn_pos (by assumption) ?_|refine gdtbn_neg (by assumption) ?_|refine gdfbn_pos (by assumption) ?_|refine gdfbn_neg (by assumption) ?_|refine gdtb_pos (by assumption) ?_|refine gdtb_neg (by assumption) ?_|refine gdtb_split (fun hg => ?_) (fun hg => ?_)|refine gdfb_pos (by assumption) ?_|refine gdfb_neg (by assumption) ?_|refine gdfb_split (fun hg => ?_) (fun hg => ?_)|refine pickT ?_|refine pickF ?_|refine pick_pos (by first|assumption|omega) ?_|refine pick_neg (by first|assumption|omega) ?_|refine pickn_pos (by first|assumption|omega) ?_|refine pickn_neg (by first|assumption|omega) ?_|refine pickbn_pos (by assumption) ?_|refine pickbn_neg (by assumption) ?_|refine pickb_pos (by assumption) ?_|refine pickb_neg (by assumption) ?_|refine condT ?_|refine condF ?_|refine cond_pos (by first|assumption|omega) ?_|refine cond_neg (by first|assumption|omega) ?_|refine condM_dec (fun hg => ?_) (fun hg => ?_)|refine condn_pos (by first|assumption|omega) ?_|refine condn_neg (by first|assumption|omega) ?_|refine condM_ndec (fun hg => ?_) (fun hg => ?_)|refine condbn_pos (by assumption) ?_|refine condbn_neg (by assumption) ?_|refine condbn_split (fun hg => ?_) (fun hg => ?_)|refine condb_pos (by assumption) ?_|refine condb_neg (by assumption) ?_|refine condM_b (fun hg => ?_) (fun hg => ?_))
    | ((with_reducible refine oM_gen (fun Kv hK => ?_)); simp [go_sem]; (try simp (disch := omega) only [wrapI64, wrapU8, wrapU32, wrapU64]); (first | refine hK _ _ ?_ | refine And.intro (by omega) (hK _ _ ?_)); clear hK; clear Kv)))
    exact k _ (Fr.refl _ _)
  · have hne : ¬ ((⟨t.toArray⟩ : ByteArray) = ⟨#[]⟩) := fun e => ht ((ba_nil t).1 e)
    obtain ⟨n, rfl⟩ := Int.eq_ofNat_of_zero_le h0
    have hmax : max (s.length : Int) ((n : Int) + t.length) = ((max s.length (n + t.length) : Nat) : Int) := by omega
    repeat (any_goals (first
    | (with_reducible refine pureM_in ?_)
    | (with_reducible first|refine pureQ_in ?_|refine gdQ_conv (fun _ => ?_)|refine pickQT ?_|refine pickQF ?_|refine pickQ_pos (by first|assumption|omega) ?_|refine pickQ_neg (by first|assumption|omega) ?_|refine pickQn_pos (by first|assumption|omega) ?_|refine pickQn_neg (by first|assumption|omega) ?_) | ((with_reducible refine oQ_one ?_ ?_); exact ⟨_, rfl⟩) | (with_reducible first|refine And.intro (Eq.refl (α := World) _) ?_|refine forall_one ?_|refine oQ_nil ?_) | (with_reducible refine oQ_of ⟨_, rfl⟩ (fun W0 hW0 => by (refine oM_gen (fun Kv hK => ?_)); simp [go_sem]; (first | exact hK _ _ ⟨rfl, rfl⟩ | exact ⟨by omega, hK _ _ ⟨rfl, rfl⟩⟩)) ?_)
    | (with_reducible first|refine gdtT ?_|refine gdtF ?_|refine gdfF ?_|refine gdfT ?_|refine gdu ?_ _|refine gdt_pos (by first|assumption|omega) ?_|refine gdt_neg (by first|assumption|omega) ?_|refine gdt_split (fun hg => ?_) (fun hg => ?_)|refine gdf_pos (by first|assumption|omega) ?_|refine gdf_neg (by first|assumption|omega) ?_|refine gdf_split (fun hg => ?_) (fun hg => ?_)|refine gdtn_pos (by first|assumption|omega) ?_|refine gdtn_neg (by first|assumption|omega) ?_|refine gdtn_split (fun hg => ?_) (fun hg => ?_)|refine gdfn_pos (by first|assumption|omega) ?_|refine gdfn_neg (by first|assumption|omega) ?_|refine gdfn_split (fun hg => ?_) (fun hg => ?_)|refine gdtbn_pos (by assumption) ?_|refine gdtbn_neg (by assumption) ?_|refine gdfbn_pos (by assumption) ?_|refine gdfbn_neg (by assumption) ?_|refine gdtb_pos (by assumption) ?_|refine gdtb_neg (by assumption) ?_|refine gdtb_split (fun hg => ?_) (fun hg => ?_)|refine gdfb_pos (by assumption) ?_|refine gdfb_neg (by assumption) ?_|refine gdfb_split (fun hg => ?_) (fun hg => ?_)|refine pickT ?_|refine pickF ?_|refine pick_pos (by first|assumption|omega) ?_|refine pick_neg (by first|assumption|omega) ?_|refine pickn_pos (by first|assumption|omega) ?_|refine pickn_neg (by first|assumption|omega) ?_|refine pickbn_pos (by assumption) ?_|refine pickbn_neg (by assumption) ?_|refine pickb_pos (by assumption) ?_|refine pickb_neg (by assumption) ?_|refine condT ?_|refine condF ?_|refine cond_pos (by first|assumption|omega) ?_|refine cond_neg (by first|assumption|omega) ?_|refine condM_dec (fun hg => ?_) (fun hg => ?_)|refine condn_pos (by first|assumption|omega) ?_|refine condn_neg (by first|assumption|omega) ?_|refine condM_ndec (fun hg => ?_) (fun hg => ?_)|refine condbn_pos (by assumption) ?_|refine condbn_neg (by assumption) ?_|refine condbn_split (fun hg => ?_) (fun hg => ?_)|refine condb_pos (by assumption) ?_|refine condb_neg (by assumption) ?_|refine condM_b (fun hg => ?_) (fun hg => ?_))
    | ((with_reducible refine oM_gen (fun Kv hK => ?_)); simp [go_sem, hmax]; (try simp (disch := omega) only [wrapI64, wrapU8, wrapU32, wrapU64]); (first | refine hK _ _ ?_ | refine And.intro (by omega) (hK _ _ ?_)); clear hK; clear Kv)))
    have hpos : 0 < t.length := List.length_pos_iff.2 ht
    refine makeBytes_at (e := 5) (i := (Tryd.prog.info? 5).getD default) (by kernel_rfl) (by kernel_rfl) (by kernel_rfl) (by kernel_rfl) (by kernel_rfl) _ (by omega) (fun hB => ?_)
    have g1 : Fr (fun _ => False) w (w.alloc (.cells (Lib.byteCells (List.replicate (max s.length (n + t.length)) 0)).toArray 5)) := (Fr.refl _ _).alloc _
    generalize (w.alloc (.cells (Lib.byteCells (List.replicate (max s.length (n + t.length)) 0)).toArray 5)) = w1 at *
    refine copyStr_at (e := 5) (by kernel_rfl) (by kernel_rfl) hB s (by omega) (by simp; omega) (fun w2 hB2 hg2 => ?_)
    have g2 := g1.by hg2 (fun i hi => by cases hi; exact .inr (Nat.le_refl _))
    refine sliceFrom_at (sz := 1) (by kernel_rfl) (fun w => by kernel_rfl) n (by omega) (by omega) ?_
    rw [Nat.zero_add, Nat.mul_one]
    refine copyStr_at (e := 5) (by kernel_rfl) (by kernel_rfl) hB2 t (by omega) (by simp; omega) (fun w3 hB3 hg3 => ?_)
    have g3 := g2.by hg3 (fun i hi => by cases hi; exact .inr (Nat.le_refl _))
    have e1 : (List.replicate (max s.length (n + t.length)) (0 : UInt8)).take 0 ++ s ++ (List.replicate (max s.length (n + t.length)) 0).drop (0 + s.length) = s ++ List.replicate (n + t.length - s.length) 0 := by
      rw [List.take_zero, List.nil_append, List.drop_replicate]
      congr 2
      omega
    have e2 := putB_length s n t
    rw [if_neg ht] at e2
    have e3 : (s ++ List.replicate (n + t.length - s.length) 0).take n ++ t ++ (s ++ List.replicate (n + t.length - s.length) 0).drop (n + t.length) = putB s n t := by
      unfold putB
      rw [if_neg ht]
    rw [e1, e3] at hB3
    refine toStr_at (e := 5) (by kernel_rfl) (by kernel_rfl) (by kernel_rfl) hB3 e2.symm ?_
    have := k w3 g3
    rw [Int.toNat_natCast] at this
    exact this
theorem put_ok' (s t : Bs) (a : Int) (h0 : 0 ≤ a) (ha : a + t.length ≤ 16777216) (hs : s.length ≤ 16777216) (k : ∀ w', Fr (fun _ => False) w w' → K (bsV (putB s a.toNat t)) w') : callM Tryd.prog 88 #[.string ⟨s.toArray⟩, .int .i64 a, .string ⟨t.toArray⟩] K w := put_ok s t a h0 ha hs k
theorem arm_ok (d : IsDk w b A h) (n : Int) (hn : n < 2 ^ 63) {v : Value} {l : List Int} (hr : RowR intC 1 w v l) (hl : l.length < 2 ^ 40) (hk : ∀ x ∈ l, -2 ^ 63 ≤ x ∧ x < 2 ^ 63) (k : ∀ w' h', IsDk w' b (armA A n l) h' → Step w b h w' h' → K (.tuple #[]) w') : callM Tryd.prog 59 #[dkP b, .int .i64 n, v] K w := by
  apply sh_59_ok
  unfold sh_59 dkP
  repeat (any_goals (first
  | (with_reducible refine pureM_in ?_)
  | (with_reducible first|refine pureQ_in ?_|refine gdQ_conv (fun _ => ?_)|refine pickQT ?_|refine pickQF ?_|refine pickQ_pos (by first|assumption|omega) ?_|refine pickQ_neg (by first|assumption|omega) ?_|refine pickQn_pos (by first|assumption|omega) ?_|refine pickQn_neg (by first|assumption|omega) ?_) | ((with_reducible refine oQ_one ?_ ?_); exact ⟨_, rfl⟩) | (with_reducible first|refine And.intro (Eq.refl (α := World) _) ?_|refine forall_one ?_|refine oQ_nil ?_) | (with_reducible refine oQ_of ⟨_, rfl⟩ (fun W0 hW0 => by (refine oM_gen (fun Kv hK => ?_)); simp [go_sem]; (first | exact hK _ _ ⟨rfl, rfl⟩ | exact ⟨by omega, hK _ _ ⟨rfl, rfl⟩⟩)) ?_)
  | (with_reducible refine cloneInt_ok hr hl ?_)
  | (with_reducible first|refine gdtT ?_|refine gdtF ?_|refine gdfF ?_|refine gdfT ?_|refine gdu ?_ _|refine gdt_pos (by first|assumption|omega) ?_|refine gdt_neg (by first|assumption|omega) ?_|refine gdt_split (fun hg => ?_) (fun hg => ?_)|refine gdf_pos (by first|assumption|omega) ?_|refine gdf_neg (by first|assumption|omega) ?_|refine gdf_split (fun hg => ?_) (fun hg => ?_)|refine gdtn_pos (by first|assumption|omega) ?_|refine gdtn_neg (by first|assumption|omega) ?_|refine gdtn_split (fun hg => ?_) (fun hg => ?_)|refine gdfn_pos (by first|assumption|omega) ?_|refine gdfn_neg (by first|assumption|omega) ?_|refine gdfn_split (fun hg => ?_) (fun hg => ?_)|refine gdtbn_pos (by assumption) ?_|refine gdtbn_neg (by assumption) ?_|refine gdfbn_pos (by assumption) ?_|refine gdfbn_neg (by assumption) ?_|refine gdtb_pos (by assumption) ?_|refine gdtb_neg (by assumption) ?_|refine gdtb_split (fun hg => ?_) (fun hg => ?_)|refine gdfb_pos (by assumption) ?_|refine gdfb_neg (by assumption) ?_|refine gdfb_split (fun hg => ?_) (fun hg => ?_)|refine pickT ?_|refine pickF ?_|refine pick_pos (by first|assumption|omega) ?_|refine pick_neg (by first|assumption|omega) ?_|refine pickn_pos (by first|assumption|omega) ?_|refine pickn_neg (by first|assumption|omega) ?_|refine pickbn_pos (by assumption) ?_|refine pickbn_neg (by assumption) ?_|refine pickb_pos (by assumption) ?_|refine pickb_neg (by assumption) ?_|refine condT ?_|refine condF ?_|refine cond_pos (by first|assumption|omega) ?_|refine cond_neg (by first|assumption|omega) ?_|refine condM_dec (fun hg => ?_) (fun hg => ?_)|refine condn_pos (by first|assumption|omega) ?_|refine condn_neg (by first|assumption|omega) ?_|refine condM_ndec (fun hg => ?_) (fun hg => ?_)|refine condbn_pos (by assumption) ?_|refine condbn_neg (by assumption) ?_|refine condbn_split (fun hg => ?_) (fun hg => ?_)|refine condb_pos (by assumption) ?_|refine condb_neg (by assumption) ?_|refine condM_b (fun hg => ?_) (fun hg => ?_))
  | ((with_reducible refine oM_gen (fun Kv hK => ?_)); simp [go_sem]; (try simp (disch := omega) only [wrapI64, wrapU8, wrapU32, wrapU64]); (first | refine hK _ _ ?_ | refine And.intro (by omega) (hK _ _ ?_)); clear hK; clear Kv)))
  intro v' w1 ho hf hv
  obtain ⟨va, vc, rfl⟩ := owns_len ho
  have d1 : IsDk w1 b A h := d.keep (fun i hi => hf.block i (d.lt hi) (fun h => h))
  have c5 := d1.c 5
  have f5 := d1.fz 5
  simp only [dkCells] at c5
  have d2 := d1.set5 (max n 0) (by omega)
  have c6 := d2.c 6
  have f6 := d2.fz 6
  simp only [dkCells] at c6
  repeat (any_goals (first
  | (with_reducible refine pureM_in ?_)
  | (with_reducible first|refine pureQ_in ?_|refine gdQ_conv (fun _ => ?_)|refine pickQT ?_|refine pickQF ?_|refine pickQ_pos (by first|assumption|omega) ?_|refine pickQ_neg (by first|assumption|omega) ?_|refine pickQn_pos (by first|assumption|omega) ?_|refine pickQn_neg (by first|assumption|omega) ?_) | ((with_reducible refine oQ_one ?_ ?_); exact ⟨_, rfl⟩) | (with_reducible first|refine And.intro (Eq.refl (α := World) _) ?_|refine forall_one ?_|refine oQ_nil ?_) | (with_reducible refine oQ_of ⟨_, rfl⟩ (fun W0 hW0 => by (refine oM_gen (fun Kv hK => ?_)); simp [go_sem]; (first | exact hK _ _ ⟨rfl, rfl⟩ | exact ⟨by omega, hK _ _ ⟨rfl, rfl⟩⟩)) ?_)
  | (with_reducible first|refine gdtT ?_|refine gdtF ?_|refine gdfF ?_|refine gdfT ?_|refine gdu ?_ _|refine gdt_pos (by first|assumption|omega) ?_|refine gdt_neg (by first|assumption|omega) ?_|refine gdt_split (fun hg => ?_) (fun hg => ?_)|refine gdf_pos (by first|assumption|omega) ?_|refine gdf_neg (by first|assumption|omega) ?_|refine gdf_split (fun hg => ?_) (fun hg => ?_)|refine gdtn_pos (by first|assumption|omega) ?_|refine gdtn_neg (by first|assumption|omega) ?_|refine gdtn_split (fun hg => ?_) (fun hg => ?_)|refine gdfn_pos (by first|assumption|omega) ?_|refine gdfn_neg (by first|assumption|omega) ?_|refine gdfn_split (fun hg => ?_) (fun hg => ?_)|refine gdtbn_pos (by assumption) ?_|refine gdtbn_neg (by assumption) ?_|refine gdfbn_pos (by assumption) ?_|refine gdfbn_neg (by assumption) ?_|refine gdtb_pos (by assumption) ?_|refine gdtb_neg (by assumption) ?_|refine gdtb_split (fun hg => ?_) (fun hg => ?_)|refine gdfb_pos (by assumption) ?_|refine gdfb_neg (by assumption) ?_|refine gdfb_split (fun hg => ?_) (fun hg => ?_)|refine pickT ?_|refine pickF ?_|refine pick_pos (by first|assumption|omega) ?_|refine pick_neg (by first|assumption|omega) ?_|refine pickn_pos (by first|assumption|omega) ?_|refine pickn_neg (by first|assumption|omega) ?_|refine pickbn_pos (by assumption) ?_|refine pickbn_neg (by assumption) ?_|refine pickb_pos (by assumption) ?_|refine pickb_neg (by assumption) ?_|refine condT ?_|refine condF ?_|refine cond_pos (by first|assumption|omega) ?_|refine cond_neg (by first|assumption|omega) ?_|refine condM_dec (fun hg => ?_) (fun hg => ?_)|refine condn_pos (by first|assumption|omega) ?_|refine condn_neg (by first|assumption|omega) ?_|refine condM_ndec (fun hg => ?_) (fun hg => ?_)|refine condbn_pos (by assumption) ?_|refine condbn_neg (by assumption) ?_|refine condbn_split (fun hg => ?_) (fun hg => ?_)|refine condb_pos (by assumption) ?_|refine condb_neg (by assumption) ?_|refine condM_b (fun hg => ?_) (fun hg => ?_))
  | ((with_reducible refine oM_gen (fun Kv hK => ?_)); simp [go_sem, c5, f5, c6, f6]; (try simp (disch := omega) only [wrapI64, wrapU8, wrapU32, wrapU64]); (first | refine hK _ _ ?_ | refine And.intro (by omega) (hK _ _ ?_)); clear hK; clear Kv)))
  have hb := d2.blk
  have hsz := hf.size
  have hfl : flat intC l = l.map i64V := flat_one i64V l
  have hvb : ∀ i, (Value.slice va l.length vc).ownBlock = some i → w.heap.size ≤ i := hv
  have hblt : b < w.heap.size := d.lt (.inl (.inl rfl))
  generalize hw2 : w1.setCell ⟨b, 5, none⟩ (.int .i64 (max n 0)) = w2 at *
  have hne : ∀ i, i ≠ b → (w2.setCell ⟨b, 6, none⟩ (.slice va l.length vc)).heap[i]? = w2.heap[i]? := fun i hi => setCell_heap_ne _ _ _ _ hi
  have ho2 : w2.ownsRow 0 3 1 (.slice va l.length vc) l.length (flat intC l) := owns_keep ho (fun i hi => by
    rw [← hw2, setCell_heap_ne _ _ _ _ (fun e => by have := hvb i hi; simp at e; omega)])
  refine k _ { h with kp := .slice va l.length vc } ⟨?_, ?_, ?_, ?_, ?_, d.ne, armA_wf d.wf n hn l hk (by omega)⟩ ⟨?_, ?_, ?_⟩
  · rw [block_set hb]; rfl
  · obtain ⟨l, hl, h2⟩ := d2.files
    exact ⟨l, hl.of_block (hne _ d2.bfm.symm), h2⟩
  · obtain ⟨l, hl, h2⟩ := d2.set
    exact ⟨l, hl.of_block (hne _ d2.bsm.symm), h2⟩
  · exact owns_keep d2.que (fun i hi => hne i (d2.qne hi).1)
  · show World.ownsRow _ 0 _ 1 (.slice va l.length vc) l.length (l.map i64V)
    rw [← hfl]
    exact owns_keep ho2 (fun i hi => hne i (fun e => by have := hvb i hi; omega))
  · have : Fr (Own b h) w w1 := hf.mono (fun i _ h => h.elim)
    rw [← hw2]
    exact (this.set ⟨b, 5, none⟩ _ (.inl (.inl rfl))).set ⟨b, 6, none⟩ _ (.inl (.inl rfl))
  · intro i hi
    exact .inl hi
  · intro i hi
    exact .inr (hv i hi)
end
end Go.Proofs
namespace Go.Proofs
open Go Go.Sh Go.RowKit DkSpec
set_option linter.unusedSimpArgs false
set_option maxRecDepth 10000
section
variable {w : World} {b : Nat} {A : Ab} {h : Dk} {K : Value → World → Prop}
theorem secC_len (p : Int × Int) : (secC p).length = 2 := rfl
theorem secC_one (p : Int × Int) : ∀ u ∈ secC p, u.oneCell' = true := by
  intro u hu
  simp [secC] at hu
  rcases hu with rfl | rfl <;> rfl
end
end Go.Proofs
namespace Go.Proofs
open Go Go.Sh Go.RowKit DkSpec
set_option linter.unusedSimpArgs false
set_option maxRecDepth 10000
section
variable {w : World} {b : Nat} {A : Ab} {h : Dk} {K : Value → World → Prop}
theorem cell_heap {w w' : World} (h : w'.heap = w.heap) (a : Addr) : w'.cell? a = w.cell? a := by
  unfold World.cell?; rw [h]
theorem IsDk.heap {w' : World} (d : IsDk w b A h) (e : w'.heap = w.heap) : IsDk w' b A h := d.keep (fun i _ => by rw [e])
theorem IsDk.fresh {w' : World} (d : IsDk w b A h) (f : Fr (fun _ => False) w w') : IsDk w' b A h := d.keep (fun i hi => f.block i (d.lt hi) (fun h => h))
theorem Step.fresh {w' : World} (f : Fr (fun _ => False) w w') : Step w b h w' h := ⟨f.mono (fun _ _ h => h.elim), fun _ h => .inl h, fun _ h => .inl h⟩
def secsFrom (n m : Nat) : List Int := (List.range' n (m + 1 - n)).map Int.ofNat
theorem secsFrom_le {n m : Nat} (h : n ≤ m) : secsFrom n m = (n : Int) :: secsFrom (n + 1) m := by
  unfold secsFrom
  have e : m + 1 - n = (m + 1 - (n + 1)) + 1 := by omega
  rw [e, List.range'_succ]
  rfl
theorem secsFrom_gt {n m : Nat} (h : m < n) : secsFrom n m = [] := by
  unfold secsFrom
  have e : m + 1 - n = 0 := by omega
  rw [e]
  rfl
theorem push_wf (hw : WF A) {f n : Int} (hf : 0 ≤ f ∧ f < 16) (hn : 0 ≤ n ∧ n < 262144) (hq : (f, n) ∉ A.queue) : WF { A with queue := A.queue ++ [(f, n)] } := by
  refine ⟨hw.l0, hw.l1, hw.a0, hw.a1, ?_, ?_, hw.sz, hw.kr, hw.kl⟩
  · show (A.queue ++ [(f, n)]).Nodup
    rw [List.nodup_append]
    refine ⟨hw.nd, by simp, ?_⟩
    intro a ha c hc
    simp only [List.mem_singleton] at hc
    subst hc
    rintro rfl
    exact hq ha
  · intro p hp
    rcases List.mem_append.1 hp with hp | hp
    · exact hw.qr p hp
    · simp only [List.mem_singleton] at hp
      subst hp
      exact ⟨hf.1, hf.2, hn.1, hn.2⟩
theorem IsDk.lookS (d : IsDk w b A h) (p : Int × Int) : (Instr.lookup 89 (.map (some h.sm)) (.agg #[.int .i64 p.1, .int .i64 p.2]) false).run Tryd.prog w = .ok (.bool (decide (p ∈ A.queue))) w := by
  obtain ⟨l, hl, h2⟩ := d.set
  have := run_lookup (P := Tryd.prog) (t := 89) (et := 4) (z := .bool false) keyS (by kernel_rfl) (fun w => by kernel_rfl) hl p
  rw [h2] at this
  unfold secV at this
  rw [this]
  by_cases hp : p ∈ A.queue <;> simp [hp]
theorem IsDk.setFile (d : IsDk w b A h) (f : Int) (x : Bs × Bs) (hx : x.1.length ≤ 16777216 ∧ x.2.length ≤ 16777216) : ∃ w', (Instr.mapUpdate 88 (.map (some h.fm)) (.int .i64 f) (.agg #[.string ⟨x.1.toArray⟩, .string ⟨x.2.toArray⟩])).run Tryd.prog w = .ok () w' ∧ IsDk w' b { A with F := setF A.F f x } h ∧ Step w b h w' h := by
  obtain ⟨l, m, hl⟩ := d.files
  obtain ⟨w', hr, m', g, z⟩ := run_update (P := Tryd.prog) (t := 88) (et := 100) keyI (by kernel_rfl) m f (flV x)
  have hne : ∀ i, i < w.heap.size → i ≠ h.fm → w'.heap[i]? = w.heap[i]? := fun i hi hn => g.block i hi (fun e => hn (by cases e; rfl))
  refine ⟨w', hr, ⟨?_, ⟨_, m', ?_⟩, ?_, ?_, ?_, d.ne, ?_⟩, ⟨(Fr.refl _ _).by g (fun i hi => by cases hi; exact .inl (.inr (.inl rfl))), fun _ h => .inl h, fun _ h => .inl h⟩⟩
  · rw [hne b (d.lt (.inl (.inl rfl))) d.bfm]; exact d.blk
  · intro g
    rw [lookA_put]
    show _ = flV (setF A.F f x g)
    by_cases hg : g = f
    · subst hg
      rw [if_pos rfl, setF_same]; rfl
    · rw [if_neg hg, setF_ne _ _ _ _ hg]; exact hl g
  · obtain ⟨ls, ms, hs⟩ := d.set
    exact ⟨ls, ms.of_block (hne _ ms.lt (Ne.symm d.ne)), hs⟩
  · exact owns_keep d.que (fun i hi => hne i (d.lt (.inl (.inr (.inr (.inr hi))))) (d.qne hi).2.1)
  · exact owns_keep d.kep (fun i hi => hne i (d.lt (.inr hi)) (d.kne hi).2.1)
  · refine ⟨d.wf.l0, d.wf.l1, d.wf.a0, d.wf.a1, d.wf.nd, d.wf.qr, ?_, d.wf.kr, d.wf.kl⟩
    intro g
    show (setF A.F f x g).1.length ≤ _ ∧ (setF A.F f x g).2.length ≤ _
    by_cases hg : g = f
    · subst hg; rw [setF_same]; exact hx
    · rw [setF_ne _ _ _ _ hg]; exact d.wf.sz g
theorem push_done {w9 w10 w13 : World} {p : Int × Int} {v' : Value} {ls : List ((Int × Int) × Value)} (d9 : IsDk w9 b A h) (hg10 : w9.grownBy w10 h.q.ownBlock) (ho : w10.ownsRow 0 103 2 v' (A.queue.length + 1) (flat secC A.queue ++ secC p)) (hv : ∀ i, v'.ownBlock = some i → h.q.ownBlock = some i ∨ w9.heap.size ≤ i)
    (m13 : MapIs secV w13 h.sm (putA ls p (.bool true))) (hls : ∀ p, lookA ls p = if p ∈ A.queue then some (.bool true) else none) (g13 : (w10.setCell ⟨b, 1, none⟩ v').grownBy w13 (some h.sm)) (hwf : WF { A with queue := A.queue ++ [p] }) :
    IsDk w13 b { A with queue := A.queue ++ [p] } { h with q := v' } ∧ Step w9 b h w13 { h with q := v' } := by
  have hs10 := hg10.size
  have hb9 := d9.lt (.inl (.inl rfl))
  have hf9 : h.fm < w9.heap.size := d9.lt (.inl (.inr (.inl rfl)))
  have hsm9 : h.sm < w9.heap.size := d9.lt (.inl (.inr (.inr (.inl rfl))))
  have k10 : ∀ i, i < w9.heap.size → h.q.ownBlock ≠ some i → w10.heap[i]? = w9.heap[i]? := fun i hi hn => hg10.block i hi (fun e => hn e.symm)
  have hsz11 : (w10.setCell ⟨b, 1, none⟩ v').heap.size = w10.heap.size := by simp [World.setCell]
  have k13 : ∀ i, i < w10.heap.size → i ≠ h.sm → i ≠ b → w13.heap[i]? = w10.heap[i]? := fun i hi hn hb => by
    rw [g13.block i (by rw [hsz11]; exact hi) (fun e => hn (by cases e; rfl)), setCell_heap_ne _ _ _ _ hb]
  have hqb : h.q.ownBlock ≠ some b := fun e => (d9.qne e).1 rfl
  have hqf : h.q.ownBlock ≠ some h.fm := fun e => (d9.qne e).2.1 rfl
  have hqs : h.q.ownBlock ≠ some h.sm := fun e => (d9.qne e).2.2 rfl
  have hvne : ∀ i, v'.ownBlock = some i → i ≠ b ∧ i ≠ h.sm := fun i hi => by
    rcases hv i hi with e | e
    · exact ⟨(d9.qne e).1, (d9.qne e).2.2⟩
    · omega
  refine ⟨⟨?_, ?_, ?_, ?_, ?_, d9.ne, hwf⟩, ⟨?_, ?_, fun i hi => .inl hi⟩⟩
  · have hb10 := k10 b hb9 hqb
    rw [d9.blk] at hb10
    rw [g13.block b (by rw [hsz11]; omega) (fun e => d9.bsm (by cases e; rfl)), block_set hb10]
    rfl
  · obtain ⟨l, m, hl⟩ := d9.files
    refine ⟨l, m.of_block ?_, hl⟩
    rw [k13 _ (by omega) d9.ne d9.bfm.symm, k10 _ hf9 hqf]
  · refine ⟨_, m13, fun r => ?_⟩
    rw [lookA_put, hls]
    by_cases hr : r = p
    · subst hr; simp
    · simp [hr]
  · show w13.ownsRow 0 _ 2 v' (A.queue ++ [p]).length (flat secC (A.queue ++ [p]))
    rw [flat_snoc, List.length_append]
    exact owns_keep ho (fun i hi => k13 i (owns_own ho hi).1 (hvne i hi).2 (hvne i hi).1)
  · refine owns_keep d9.kep (fun i hi => ?_)
    have hi' := d9.lt (.inr hi)
    have := d9.kne hi
    rw [k13 i (by omega) this.2.2.1 this.1, k10 i hi' this.2.2.2]
  · refine (((Fr.refl _ _).by hg10 (fun i hi => .inl (.inr (.inr (.inr hi))))).set ⟨b, 1, none⟩ v' (.inl (.inl rfl))).by g13 (fun i hi => ?_)
    cases hi
    exact .inl (.inr (.inr (.inl rfl)))
  · rintro i (rfl | rfl | rfl | hi)
    · exact .inl (.inl rfl)
    · exact .inl (.inr (.inl rfl))
    · exact .inl (.inr (.inr (.inl rfl)))
    · exact (hv i hi).imp (fun e => .inr (.inr (.inr e))) id
set_option maxHeartbeats 1000000 in
theorem write_ok (d : IsDk w b A h) (f at_ : Int) (s : Bs) (hs : s.length < 2 ^ 60) (hat : -2 ^ 63 ≤ at_ ∧ at_ < 2 ^ 63) (k : ∀ w' h', IsDk w' b (wrA A f at_ s).2 h' → Step w b h w' h' → K (.int .i64 (wrA A f at_ s).1) w') : callM Tryd.prog 86 #[dkP b, .int .i64 f, .int .i64 at_, bsV s] K w := by
  apply sh_86_ok
  unfold sh_86
  refine may_ok d f ?_
  have k' : ∀ r A', wrA A f at_ s = (r, A') → ∀ w' h', IsDk w' b A' h' → Step w b h w' h' → K (.int .i64 r) w' := by
    intro r A' e w' h' h1 h2
    have := k w' h' (by rw [e]; exact h1) h2
    rw [e] at this
    exact this
  clear k
  unfold wrA at k'
  have c0 := d.c 0
  simp only [dkCells] at c0
  have hl := d.look f
  unfold dkP bsV
  repeat (any_goals (first
  | (with_reducible refine pureM_in ?_)
  | (with_reducible first|refine pureQ_in ?_|refine gdQ_conv (fun _ => ?_)|refine pickQT ?_|refine pickQF ?_|refine pickQ_pos (by first|assumption|omega) ?_|refine pickQ_neg (by first|assumption|omega) ?_|refine pickQn_pos (by first|assumption|omega) ?_|refine pickQn_neg (by first|assumption|omega) ?_) | ((with_reducible refine oQ_one ?_ ?_); exact ⟨_, rfl⟩) | (with_reducible first|refine And.intro (Eq.refl (α := World) _) ?_|refine forall_one ?_|refine oQ_nil ?_) | (with_reducible refine oQ_of ⟨_, rfl⟩ (fun W0 hW0 => by (refine oM_gen (fun Kv hK => ?_)); simp [go_sem]; (first | exact hK _ _ ⟨rfl, rfl⟩ | exact ⟨by omega, hK _ _ ⟨rfl, rfl⟩⟩)) ?_)
  | (with_reducible first|refine gdtT ?_|refine gdtF ?_|refine gdfF ?_|refine gdfT ?_|refine gdu ?_ _|refine gdt_pos (by first|assumption|omega) ?_|refine gdt_neg (by first|assumption|omega) ?_|refine gdt_split (fun hg => ?_) (fun hg => ?_)|refine gdf_pos (by first|assumption|omega) ?_|refine gdf_neg (by first|assumption|omega) ?_|refine gdf_split (fun hg => ?_) (fun hg => ?_)|refine gdtn_pos (by first|assumption|omega) ?_|refine gdtn_neg (by first|assumption|omega) ?_|refine gdtn_split (fun hg => ?_) (fun hg => ?_)|refine gdfn_pos (by first|assumption|omega) ?_|refine gdfn_neg (by first|assumption|omega) ?_|refine gdfn_split (fun hg => ?_) (fun hg => ?_)|refine gdtbn_pos (by assumption) ?_|refine gdtbn_neg (by assumption) ?_|refine gdfbn_pos (by assumption) ?_|refine gdfbn_neg (by assumption) ?_|refine gdtb_pos (by assumption) ?_|refine gdtb_neg (by assumption) ?_|refine gdtb_split (fun hg => ?_) (fun hg => ?_)|refine gdfb_pos (by assumption) ?_|refine gdfb_neg (by assumption) ?_|refine gdfb_split (fun hg => ?_) (fun hg => ?_)|refine pickT ?_|refine pickF ?_|refine pick_pos (by first|assumption|omega) ?_|refine pick_neg (by first|assumption|omega) ?_|refine pickn_pos (by first|assumption|omega) ?_|refine pickn_neg (by first|assumption|omega) ?_|refine pickbn_pos (by assumption) ?_|refine pickbn_neg (by assumption) ?_|refine pickb_pos (by assumption) ?_|refine pickb_neg (by assumption) ?_|refine condT ?_|refine condF ?_|refine cond_pos (by first|assumption|omega) ?_|refine cond_neg (by first|assumption|omega) ?_|refine condM_dec (fun hg => ?_) (fun hg => ?_)|refine condn_pos (by first|assumption|omega) ?_|refine condn_neg (by first|assumption|omega) ?_|refine condM_ndec (fun hg => ?_) (fun hg => ?_)|refine condbn_pos (by assumption) ?_|refine condbn_neg (by assumption) ?_|refine condbn_split (fun hg => ?_) (fun hg => ?_)|refine condb_pos (by assumption) ?_|refine condb_neg (by assumption) ?_|refine condM_b (fun hg => ?_) (fun hg => ?_))
  | ((with_reducible refine oM_gen (fun Kv hK => ?_)); simp [go_sem, c0, hl, flV, bsV]; (try simp (disch := omega) only [wrapI64, wrapU8, wrapU32, wrapU64]); (first | refine hK _ _ ?_ | refine And.intro (by omega) (hK _ _ ?_)); clear hK; clear Kv)))
  · rename_i hm
    exact k' 1 A (by rw [if_neg (by omega), if_pos hg]) w h d (Step.refl _ _ _)
  · rename_i hm h1
    exact k' 6 A (by rw [if_neg (by omega), if_neg h1, if_pos (by omega)]) w h d (Step.refl _ _ _)
  · rename_i hm h1 h2
    exact k' 6 A (by rw [if_neg (by omega), if_neg h1, if_pos (by omega)]) w h d (Step.refl _ _ _)
  · rename_i hm h1 h2 h3
    exact k' 0 A (by rw [if_neg (by omega), if_neg h1, if_neg (by omega), hg]; rfl) w h d (Step.refl _ _ _)
  · rename_i hm h1 h2 h3
    have hmay := mayA_ok hm
    have hsne : ¬ s = [] := hg
    have k0 := k' 0 (addA A f at_.toNat s) (by rw [if_neg (by omega), if_neg h1, if_neg (by omega)])
    clear k'
    obtain ⟨a, rfl⟩ := Int.eq_ofNat_of_zero_le (by omega : 0 ≤ at_)
    rw [Int.toNat_natCast] at k0
    have hlen : 0 < s.length := List.length_pos_iff.2 hg
    have hn := heap_alloc_new w (.cells #[bsV (A.F f).1, bsV (A.F f).2] 100 (0, 0))
    have f0 : Fr (fun _ => False) w (w.alloc (.cells #[bsV (A.F f).1, bsV (A.F f).2] 100 (0, 0))) := (Fr.refl _ _).alloc _
    have z0 := alloc_size w (.cells #[bsV (A.F f).1, bsV (A.F f).2] 100 (0, 0))
    simp only [bsV] at hn f0 z0
    generalize w.alloc (.cells #[.string ⟨(A.F f).1.toArray⟩, .string ⟨(A.F f).2.toArray⟩] 100 (0, 0)) = w0 at *
    have e0 := cell_of_block hn 0
    simp at e0
    repeat (any_goals (first
    | (with_reducible refine pureM_in ?_)
    | (with_reducible first|refine pureQ_in ?_|refine gdQ_conv (fun _ => ?_)|refine pickQT ?_|refine pickQF ?_|refine pickQ_pos (by first|assumption|omega) ?_|refine pickQ_neg (by first|assumption|omega) ?_|refine pickQn_pos (by first|assumption|omega) ?_|refine pickQn_neg (by first|assumption|omega) ?_) | ((with_reducible refine oQ_one ?_ ?_); exact ⟨_, rfl⟩) | (with_reducible first|refine And.intro (Eq.refl (α := World) _) ?_|refine forall_one ?_|refine oQ_nil ?_) | (with_reducible refine oQ_of ⟨_, rfl⟩ (fun W0 hW0 => by (refine oM_gen (fun Kv hK => ?_)); simp [go_sem]; (first | exact hK _ _ ⟨rfl, rfl⟩ | exact ⟨by omega, hK _ _ ⟨rfl, rfl⟩⟩)) ?_)
    | (with_reducible refine put_ok' (A.F f).1 s (a : Int) (by omega) (by omega) (d.wf.sz f).1 ?_)
    | (with_reducible first|refine gdtT ?_|refine gdtF ?_|refine gdfF ?_|refine gdfT ?_|refine gdu ?_ _|refine gdt_pos (by first|assumption|omega) ?_|refine gdt_neg (by first|assumption|omega) ?_|refine gdt_split (fun hg => ?_) (fun hg => ?_)|refine gdf_pos (by first|assumption|omega) ?_|refine gdf_neg (by first|assumption|omega) ?_|refine gdf_split (fun hg => ?_) (fun hg => ?_)|refine gdtn_pos (by first|assumption|omega) ?_|refine gdtn_neg (by first|assumption|omega) ?_|refine gdtn_split (fun hg => ?_) (fun hg => ?_)|refine gdfn_pos (by first|assumption|omega) ?_|refine gdfn_neg (by first|assumption|omega) ?_|refine gdfn_split (fun hg => ?_) (fun hg => ?_)|refine gdtbn_pos (by assumption) ?_|refine gdtbn_neg (by assumption) ?_|refine gdfbn_pos (by assumption) ?_|refine gdfbn_neg (by assumption) ?_|refine gdtb_pos (by assumption) ?_|refine gdtb_neg (by assumption) ?_|refine gdtb_split (fun hg => ?_) (fun hg => ?_)|refine gdfb_pos (by assumption) ?_|refine gdfb_neg (by assumption) ?_|refine gdfb_split (fun hg => ?_) (fun hg => ?_)|refine pickT ?_|refine pickF ?_|refine pick_pos (by first|assumption|omega) ?_|refine pick_neg (by first|assumption|omega) ?_|refine pickn_pos (by first|assumption|omega) ?_|refine pickn_neg (by first|assumption|omega) ?_|refine pickbn_pos (by assumption) ?_|refine pickbn_neg (by assumption) ?_|refine pickb_pos (by assumption) ?_|refine pickb_neg (by assumption) ?_|refine condT ?_|refine condF ?_|refine cond_pos (by first|assumption|omega) ?_|refine cond_neg (by first|assumption|omega) ?_|refine condM_dec (fun hg => ?_) (fun hg => ?_)|refine condn_pos (by first|assumption|omega) ?_|refine condn_neg (by first|assumption|omega) ?_|refine condM_ndec (fun hg => ?_) (fun hg => ?_)|refine condbn_pos (by assumption) ?_|refine condbn_neg (by assumption) ?_|refine condbn_split (fun hg => ?_) (fun hg => ?_)|refine condb_pos (by assumption) ?_|refine condb_neg (by assumption) ?_|refine condM_b (fun hg => ?_) (fun hg => ?_))
    | ((with_reducible refine oM_gen (fun Kv hK => ?_)); simp [go_sem, e0]; (try simp (disch := omega) only [wrapI64, wrapU8, wrapU32, wrapU64]); (first | refine hK _ _ ?_ | refine And.intro (by omega) (hK _ _ ?_)); clear hK; clear Kv)))
    intro w1 g1
    have f1 := f0.trans g1 (fun _ h => h.elim)
    have z1 := g1.size
    have hn1 := (g1.block w.heap.size (by omega) (fun h => h)).trans hn
    have y0 := frozen_of_block hn1 0
    have e1 := cell_of_block hn1 0
    simp at e1
    have hn2 := block_set (i := 0) hn1 (bsV (putB (A.F f).1 a s))
    unfold bsV at hn2
    repeat (any_goals (first
    | (with_reducible refine pureM_in ?_)
    | (with_reducible first|refine pureQ_in ?_|refine gdQ_conv (fun _ => ?_)|refine pickQT ?_|refine pickQF ?_|refine pickQ_pos (by first|assumption|omega) ?_|refine pickQ_neg (by first|assumption|omega) ?_|refine pickQn_pos (by first|assumption|omega) ?_|refine pickQn_neg (by first|assumption|omega) ?_) | ((with_reducible refine oQ_one ?_ ?_); exact ⟨_, rfl⟩) | (with_reducible first|refine And.intro (Eq.refl (α := World) _) ?_|refine forall_one ?_|refine oQ_nil ?_) | (with_reducible refine oQ_of ⟨_, rfl⟩ (fun W0 hW0 => by (refine oM_gen (fun Kv hK => ?_)); simp [go_sem]; (first | exact hK _ _ ⟨rfl, rfl⟩ | exact ⟨by omega, hK _ _ ⟨rfl, rfl⟩⟩)) ?_)
    | (with_reducible first|refine gdtT ?_|refine gdtF ?_|refine gdfF ?_|refine gdfT ?_|refine gdu ?_ _|refine gdt_pos (by first|assumption|omega) ?_|refine gdt_neg (by first|assumption|omega) ?_|refine gdt_split (fun hg => ?_) (fun hg => ?_)|refine gdf_pos (by first|assumption|omega) ?_|refine gdf_neg (by first|assumption|omega) ?_|refine gdf_split (fun hg => ?_) (fun hg => ?_)|refine gdtn_pos (by first|assumption|omega) ?_|refine gdtn_neg (by first|assumption|omega) ?_|refine gdtn_split (fun hg => ?_) (fun hg => ?_)|refine gdfn_pos (by first|assumption|omega) ?_|refine gdfn_neg (by first|assumption|omega) ?_|refine gdfn_split (fun hg => ?_) (fun hg => ?_)|refine gdtbn_pos (by assumption) ?_|refine gdtbn_neg (by assumption) ?_|refine gdfbn_pos (by assumption) ?_|refine gdfbn_neg (by assumption) ?_|refine gdtb_pos (by assumption) ?_|refine gdtb_neg (by assumption) ?_|refine gdtb_split (fun hg => ?_) (fun hg => ?_)|refine gdfb_pos (by assumption) ?_|refine gdfb_neg (by assumption) ?_|refine gdfb_split (fun hg => ?_) (fun hg => ?_)|refine pickT ?_|refine pickF ?_|refine pick_pos (by first|assumption|omega) ?_|refine pick_neg (by first|assumption|omega) ?_|refine pickn_pos (by first|assumption|omega) ?_|refine pickn_neg (by first|assumption|omega) ?_|refine pickbn_pos (by assumption) ?_|refine pickbn_neg (by assumption) ?_|refine pickb_pos (by assumption) ?_|refine pickb_neg (by assumption) ?_|refine condT ?_|refine condF ?_|refine cond_pos (by first|assumption|omega) ?_|refine cond_neg (by first|assumption|omega) ?_|refine condM_dec (fun hg => ?_) (fun hg => ?_)|refine condn_pos (by first|assumption|omega) ?_|refine condn_neg (by first|assumption|omega) ?_|refine condM_ndec (fun hg => ?_) (fun hg => ?_)|refine condbn_pos (by assumption) ?_|refine condbn_neg (by assumption) ?_|refine condbn_split (fun hg => ?_) (fun hg => ?_)|refine condb_pos (by assumption) ?_|refine condb_neg (by assumption) ?_|refine condM_b (fun hg => ?_) (fun hg => ?_))
    | ((with_reducible refine oM_gen (fun Kv hK => ?_)); simp [go_sem, y0, e1, bsV]; (try simp (disch := omega) only [wrapI64, wrapU8, wrapU32, wrapU64]); (first | refine hK _ _ ?_ | refine And.intro (by omega) (hK _ _ ?_)); clear hK; clear Kv)))
    have f2 := f1.set ⟨w.heap.size, 0, none⟩ (.string ⟨(putB (A.F f).1 a s).toArray⟩) (.inr (Nat.le_refl _))
    generalize w1.setCell ⟨w.heap.size, 0, none⟩ (.string ⟨(putB (A.F f).1 a s).toArray⟩) = w2 at *
    have d2 := d.fresh f2
    have c20 := d2.c 0
    simp only [dkCells] at c20
    have e20 := cell_of_block hn2 0
    have e21 := cell_of_block hn2 1
    simp at e20 e21
    refine ⟨fun s w' => s ≤ 0 → w'.heap = w2.heap, fun _ => rfl, ?_⟩
    repeat (first | (with_reducible refine pureH_in ?_) | (with_reducible refine oH_nil ?_) | (with_reducible refine gdH_true rfl ?_) | (with_reducible refine gdH_false rfl ?_) | (refine oH_of ⟨_, rfl⟩ (fun W0 hW0 => by (obtain ⟨s0, hs0, hC⟩ := hW0); (refine oM_gen (fun Kv hK => ?_)); simp [go_sem, cell_heap (hC (by omega)), c20, e20, e21]; (first | exact hK _ _ ⟨rfl, rfl⟩ | exact ⟨by omega, hK _ _ ⟨rfl, rfl⟩⟩)) ?_))
    generalize hw3 : ({ w2 with drawn := w2.drawn + 1 } : World) = w3
    have d3 : IsDk w3 b A h := d2.heap (by rw [← hw3])
    have f3 : Fr (fun _ => False) w w3 := by rw [← hw3]; exact f2.drew
    have hpl := putB_length (A.F f).1 a s
    rw [if_neg hg] at hpl
    obtain ⟨w4, hr4, d4, t4⟩ := d3.setFile f (putB (A.F f).1 a s, (A.F f).2) ⟨by show List.length (putB _ _ _) ≤ _; rw [hpl]; have := (d.wf.sz f).1; omega, (d.wf.sz f).2⟩
    simp only at hr4
    have t04 : Step w b h w4 h := (Step.fresh f3).trans t4
    repeat (any_goals (first
    | (with_reducible refine pureM_in ?_)
    | (with_reducible first|refine pureQ_in ?_|refine gdQ_conv (fun _ => ?_)|refine pickQT ?_|refine pickQF ?_|refine pickQ_pos (by first|assumption|omega) ?_|refine pickQ_neg (by first|assumption|omega) ?_|refine pickQn_pos (by first|assumption|omega) ?_|refine pickQn_neg (by first|assumption|omega) ?_) | ((with_reducible refine oQ_one ?_ ?_); exact ⟨_, rfl⟩) | (with_reducible first|refine And.intro (Eq.refl (α := World) _) ?_|refine forall_one ?_|refine oQ_nil ?_) | (with_reducible refine oQ_of ⟨_, rfl⟩ (fun W0 hW0 => by (refine oM_gen (fun Kv hK => ?_)); simp [go_sem]; (first | exact hK _ _ ⟨rfl, rfl⟩ | exact ⟨by omega, hK _ _ ⟨rfl, rfl⟩⟩)) ?_)
    | (with_reducible refine And.intro (fun hs => absurd hs (by decide)) ?_)
    | (with_reducible first|refine gdtT ?_|refine gdtF ?_|refine gdfF ?_|refine gdfT ?_|refine gdu ?_ _|refine gdt_pos (by first|assumption|omega) ?_|refine gdt_neg (by first|assumption|omega) ?_|refine gdt_split (fun hg => ?_) (fun hg => ?_)|refine gdf_pos (by first|assumption|omega) ?_|refine gdf_neg (by first|assumption|omega) ?_|refine gdf_split (fun hg => ?_) (fun hg => ?_)|refine gdtn_pos (by first|assumption|omega) ?_|refine gdtn_neg (by first|assumption|omega) ?_|refine gdtn_split (fun hg => ?_) (fun hg => ?_)|refine gdfn_pos (by first|assumption|omega) ?_|refine gdfn_neg (by first|assumption|omega) ?_|refine gdfn_split (fun hg => ?_) (fun hg => ?_)|refine gdtbn_pos (by assumption) ?_|refine gdtbn_neg (by assumption) ?_|refine gdfbn_pos (by assumption) ?_|refine gdfbn_neg (by assumption) ?_|refine gdtb_pos (by assumption) ?_|refine gdtb_neg (by assumption) ?_|refine gdtb_split (fun hg => ?_) (fun hg => ?_)|refine gdfb_pos (by assumption) ?_|refine gdfb_neg (by assumption) ?_|refine gdfb_split (fun hg => ?_) (fun hg => ?_)|refine pickT ?_|refine pickF ?_|refine pick_pos (by first|assumption|omega) ?_|refine pick_neg (by first|assumption|omega) ?_|refine pickn_pos (by first|assumption|omega) ?_|refine pickn_neg (by first|assumption|omega) ?_|refine pickbn_pos (by assumption) ?_|refine pickbn_neg (by assumption) ?_|refine pickb_pos (by assumption) ?_|refine pickb_neg (by assumption) ?_|refine condT ?_|refine condF ?_|refine cond_pos (by first|assumption|omega) ?_|refine cond_neg (by first|assumption|omega) ?_|refine condM_dec (fun hg => ?_) (fun hg => ?_)|refine condn_pos (by first|assumption|omega) ?_|refine condn_neg (by first|assumption|omega) ?_|refine condM_ndec (fun hg => ?_) (fun hg => ?_)|refine condbn_pos (by assumption) ?_|refine condbn_neg (by assumption) ?_|refine condbn_split (fun hg => ?_) (fun hg => ?_)|refine condb_pos (by assumption) ?_|refine condb_neg (by assumption) ?_|refine condM_b (fun hg => ?_) (fun hg => ?_))
    | ((with_reducible refine oM_gen (fun Kv hK => ?_)); simp [go_sem, hr4]; (try simp (disch := omega) only [wrapI64, wrapU8, wrapU32, wrapU64]); (first | refine hK _ _ ?_ | refine And.intro (by omega) (hK _ _ ?_)); clear hK; clear Kv)))
    obtain ⟨m, hm'⟩ : ∃ m, m = (a + s.length - 1) / 64 := ⟨_, rfl⟩
    have hd1 : ((a : Int) + (s.length : Int) - 1).tdiv 64 = (m : Int) := by
      rw [tdivN _ _ (by omega)]; omega
    have hd2 : ((a : Int) + (s.length : Int) - 1) / 64 = (m : Int) := by omega
    have hmb : m < 262144 := by omega
    have hbs : w.heap.size ≤ w4.heap.size := t04.fr.size
    refine ⟨fun l w' => ∃ (n : Nat) (q : List (Int × Int)) (h1 : Dk), l = [.int .i64 (n : Int)] ∧ n ≤ m + 1 ∧ IsDk w' b { A with F := setF A.F f (putB (A.F f).1 a s, (A.F f).2), queue := q } h1 ∧ Step w b h w' h1 ∧ pushQ f q (secsFrom n m) = pushQ f A.queue (secs a s.length), fun l _ => match l with | [.int _ n] => ((m : Int) + 1 - n).toNat | _ => 0, ⟨a / 64, A.queue, h, by simp, by omega, d4, t04, by rw [hm']; rfl⟩, ?_⟩
    rintro l u w5 ⟨n, q, h5, rfl, hnm, d5, t5, hp⟩
    simp only [List.getD_cons_zero]
    repeat (any_goals (first
    | (with_reducible refine pureM_in ?_)
    | (with_reducible first|refine pureQ_in ?_|refine gdQ_conv (fun _ => ?_)|refine pickQT ?_|refine pickQF ?_|refine pickQ_pos (by first|assumption|omega) ?_|refine pickQ_neg (by first|assumption|omega) ?_|refine pickQn_pos (by first|assumption|omega) ?_|refine pickQn_neg (by first|assumption|omega) ?_) | ((with_reducible refine oQ_one ?_ ?_); exact ⟨_, rfl⟩) | (with_reducible first|refine And.intro (Eq.refl (α := World) _) ?_|refine forall_one ?_|refine oQ_nil ?_) | (with_reducible refine oQ_of ⟨_, rfl⟩ (fun W0 hW0 => by (refine oM_gen (fun Kv hK => ?_)); simp [go_sem]; (first | exact hK _ _ ⟨rfl, rfl⟩ | exact ⟨by omega, hK _ _ ⟨rfl, rfl⟩⟩)) ?_)
    | (with_reducible first|refine gdtT ?_|refine gdtF ?_|refine gdfF ?_|refine gdfT ?_|refine gdu ?_ _|refine gdt_pos (by first|assumption|omega) ?_|refine gdt_neg (by first|assumption|omega) ?_|refine gdt_split (fun hg => ?_) (fun hg => ?_)|refine gdf_pos (by first|assumption|omega) ?_|refine gdf_neg (by first|assumption|omega) ?_|refine gdf_split (fun hg => ?_) (fun hg => ?_)|refine gdtn_pos (by first|assumption|omega) ?_|refine gdtn_neg (by first|assumption|omega) ?_|refine gdtn_split (fun hg => ?_) (fun hg => ?_)|refine gdfn_pos (by first|assumption|omega) ?_|refine gdfn_neg (by first|assumption|omega) ?_|refine gdfn_split (fun hg => ?_) (fun hg => ?_)|refine gdtbn_pos (by assumption) ?_|refine gdtbn_neg (by assumption) ?_|refine gdfbn_pos (by assumption) ?_|refine gdfbn_neg (by assumption) ?_|refine gdtb_pos (by assumption) ?_|refine gdtb_neg (by assumption) ?_|refine gdtb_split (fun hg => ?_) (fun hg => ?_)|refine gdfb_pos (by assumption) ?_|refine gdfb_neg (by assumption) ?_|refine gdfb_split (fun hg => ?_) (fun hg => ?_)|refine pickT ?_|refine pickF ?_|refine pick_pos (by first|assumption|omega) ?_|refine pick_neg (by first|assumption|omega) ?_|refine pickn_pos (by first|assumption|omega) ?_|refine pickn_neg (by first|assumption|omega) ?_|refine pickbn_pos (by assumption) ?_|refine pickbn_neg (by assumption) ?_|refine pickb_pos (by assumption) ?_|refine pickb_neg (by assumption) ?_|refine condT ?_|refine condF ?_|refine cond_pos (by first|assumption|omega) ?_|refine cond_neg (by first|assumption|omega) ?_|refine condM_dec (fun hg => ?_) (fun hg => ?_)|refine condn_pos (by first|assumption|omega) ?_|refine condn_neg (by first|assumption|omega) ?_|refine condM_ndec (fun hg => ?_) (fun hg => ?_)|refine condbn_pos (by assumption) ?_|refine condbn_neg (by assumption) ?_|refine condbn_split (fun hg => ?_) (fun hg => ?_)|refine condb_pos (by assumption) ?_|refine condb_neg (by assumption) ?_|refine condM_b (fun hg => ?_) (fun hg => ?_))
    | ((with_reducible refine oM_gen (fun Kv hK => ?_)); simp [go_sem, hd1, hd2]; (try simp (disch := omega) only [wrapI64, wrapU8, wrapU32, wrapU64]); (first | refine hK _ _ ?_ | refine And.intro (by omega) (hK _ _ ?_)); clear hK; clear Kv)))
    · rw [secsFrom_le hg] at hp
      have hp : pushQ f (if (f, (n : Int)) ∈ q then q else q ++ [(f, (n : Int))]) (secsFrom (n + 1) m) = _ := hp
      refine ⟨fun _ w' => ∃ (q' : List (Int × Int)) (h' : Dk), IsDk w' b { A with F := setF A.F f (putB (A.F f).1 a s, (A.F f).2), queue := q' } h' ∧ Step w b h w' h' ∧ pushQ f q' (secsFrom (n + 1) m) = pushQ f A.queue (secs a s.length), ?_, ?_⟩
      · repeat (any_goals (first
        | (with_reducible refine pureM_in ?_)
        | (with_reducible first|refine pureQ_in ?_|refine gdQ_conv (fun _ => ?_)|refine pickQT ?_|refine pickQF ?_|refine pickQ_pos (by first|assumption|omega) ?_|refine pickQ_neg (by first|assumption|omega) ?_|refine pickQn_pos (by first|assumption|omega) ?_|refine pickQn_neg (by first|assumption|omega) ?_) | ((with_reducible refine oQ_one ?_ ?_); exact ⟨_, rfl⟩) | (with_reducible first|refine And.intro (Eq.refl (α := World) _) ?_|refine forall_one ?_|refine oQ_nil ?_) | (with_reducible refine oQ_of ⟨_, rfl⟩ (fun W0 hW0 => by (refine oM_gen (fun Kv hK => ?_)); simp [go_sem]; (first | exact hK _ _ ⟨rfl, rfl⟩ | exact ⟨by omega, hK _ _ ⟨rfl, rfl⟩⟩)) ?_)
        | (with_reducible first|refine gdtT ?_|refine gdtF ?_|refine gdfF ?_|refine gdfT ?_|refine gdu ?_ _|refine gdt_pos (by first|assumption|omega) ?_|refine gdt_neg (by first|assumption|omega) ?_|refine gdt_split (fun hg => ?_) (fun hg => ?_)|refine gdf_pos (by first|assumption|omega) ?_|refine gdf_neg (by first|assumption|omega) ?_|refine gdf_split (fun hg => ?_) (fun hg => ?_)|refine gdtn_pos (by first|assumption|omega) ?_|refine gdtn_neg (by first|assumption|omega) ?_|refine gdtn_split (fun hg => ?_) (fun hg => ?_)|refine gdfn_pos (by first|assumption|omega) ?_|refine gdfn_neg (by first|assumption|omega) ?_|refine gdfn_split (fun hg => ?_) (fun hg => ?_)|refine gdtbn_pos (by assumption) ?_|refine gdtbn_neg (by assumption) ?_|refine gdfbn_pos (by assumption) ?_|refine gdfbn_neg (by assumption) ?_|refine gdtb_pos (by assumption) ?_|refine gdtb_neg (by assumption) ?_|refine gdtb_split (fun hg => ?_) (fun hg => ?_)|refine gdfb_pos (by assumption) ?_|refine gdfb_neg (by assumption) ?_|refine gdfb_split (fun hg => ?_) (fun hg => ?_)|refine pickT ?_|refine pickF ?_|refine pick_pos (by first|assumption|omega) ?_|refine pick_neg (by first|assumption|omega) ?_|refine pickn_pos (by first|assumption|omega) ?_|refine pickn_neg (by first|assumption|omega) ?_|refine pickbn_pos (by assumption) ?_|refine pickbn_neg (by assumption) ?_|refine pickb_pos (by assumption) ?_|refine pickb_neg (by assumption) ?_|refine condT ?_|refine condF ?_|refine cond_pos (by first|assumption|omega) ?_|refine cond_neg (by first|assumption|omega) ?_|refine condM_dec (fun hg => ?_) (fun hg => ?_)|refine condn_pos (by first|assumption|omega) ?_|refine condn_neg (by first|assumption|omega) ?_|refine condM_ndec (fun hg => ?_) (fun hg => ?_)|refine condbn_pos (by assumption) ?_|refine condbn_neg (by assumption) ?_|refine condbn_split (fun hg => ?_) (fun hg => ?_)|refine condb_pos (by assumption) ?_|refine condb_neg (by assumption) ?_|refine condM_b (fun hg => ?_) (fun hg => ?_))
        | ((with_reducible refine oM_gen (fun Kv hK => ?_)); simp [go_sem]; (try simp (disch := omega) only [wrapI64, wrapU8, wrapU32, wrapU64]); (first | refine hK _ _ ?_ | refine And.intro (by omega) (hK _ _ ?_)); clear hK; clear Kv)))
        have p0 := heap_alloc_new w5 (.cells #[.int .i64 f, .int .i64 (n : Int)] 103 (0, 0))
        have pf : Fr (fun _ => False) w5 (w5.alloc (.cells #[.int .i64 f, .int .i64 (n : Int)] 103 (0, 0))) := (Fr.refl _ _).alloc _
        have pz := alloc_size w5 (.cells #[.int .i64 f, .int .i64 (n : Int)] 103 (0, 0))
        generalize w5.alloc (.cells #[.int .i64 f, .int .i64 (n : Int)] 103 (0, 0)) = w6 at *
        have d6 := d5.fresh pf
        have c62 := d6.c 2
        simp only [dkCells] at c62
        have p00 := cell_of_block p0 0
        have p01 := cell_of_block p0 1
        simp at p00 p01
        have lk : ∀ W : World, W.heap = w6.heap → _ := fun W hW => (d6.heap hW).lookS (f, (n : Int))
        simp only at lk
        refine ⟨fun s w' => s ≤ 0 → w'.heap = w6.heap, fun _ => rfl, ?_⟩
        repeat (first | (with_reducible refine pureH_in ?_) | (with_reducible refine oH_nil ?_) | (with_reducible refine gdH_true rfl ?_) | (with_reducible refine gdH_false rfl ?_) | (refine oH_of ⟨_, rfl⟩ (fun W0 hW0 => by (obtain ⟨s0, hs0, hC⟩ := hW0); (refine oM_gen (fun Kv hK => ?_)); simp [go_sem, cell_heap (hC (by omega)), c62, p00, p01, lk W0 (hC (by omega))]; (first | exact hK _ _ ⟨rfl, rfl⟩ | exact ⟨by omega, hK _ _ ⟨rfl, rfl⟩⟩)) ?_))
        generalize hw7 : ({ w6 with drawn := w6.drawn + 1 } : World) = w7
        have d7 : IsDk w7 b _ h5 := d6.heap (by rw [← hw7])
        have t7 : Step w b h w7 h5 := t5.trans (Step.fresh (by rw [← hw7]; exact pf.drew))
        have p7 : w7.heap[w5.heap.size]? = some (.cells #[.int .i64 f, .int .i64 (n : Int)] 103 (0, 0)) := by rw [← hw7]; exact p0
        have z7 : w7.heap.size = w5.heap.size + 1 := by rw [← hw7]; exact pz
        clear hw7
        have b5 : b < w5.heap.size := d5.lt (.inl (.inl rfl))
        repeat (any_goals (first
        | (with_reducible refine pureM_in ?_)
        | (with_reducible first|refine pureQ_in ?_|refine gdQ_conv (fun _ => ?_)|refine pickQT ?_|refine pickQF ?_|refine pickQ_pos (by first|assumption|omega) ?_|refine pickQ_neg (by first|assumption|omega) ?_|refine pickQn_pos (by first|assumption|omega) ?_|refine pickQn_neg (by first|assumption|omega) ?_) | ((with_reducible refine oQ_one ?_ ?_); exact ⟨_, rfl⟩) | (with_reducible first|refine And.intro (Eq.refl (α := World) _) ?_|refine forall_one ?_|refine oQ_nil ?_) | (with_reducible refine oQ_of ⟨_, rfl⟩ (fun W0 hW0 => by (refine oM_gen (fun Kv hK => ?_)); simp [go_sem]; (first | exact hK _ _ ⟨rfl, rfl⟩ | exact ⟨by omega, hK _ _ ⟨rfl, rfl⟩⟩)) ?_)
        | (with_reducible first|refine gdtT ?_|refine gdtF ?_|refine gdfF ?_|refine gdfT ?_|refine gdu ?_ _|refine gdt_pos (by first|assumption|omega) ?_|refine gdt_neg (by first|assumption|omega) ?_|refine gdt_split (fun hg => ?_) (fun hg => ?_)|refine gdf_pos (by first|assumption|omega) ?_|refine gdf_neg (by first|assumption|omega) ?_|refine gdf_split (fun hg => ?_) (fun hg => ?_)|refine gdtn_pos (by first|assumption|omega) ?_|refine gdtn_neg (by first|assumption|omega) ?_|refine gdtn_split (fun hg => ?_) (fun hg => ?_)|refine gdfn_pos (by first|assumption|omega) ?_|refine gdfn_neg (by first|assumption|omega) ?_|refine gdfn_split (fun hg => ?_) (fun hg => ?_)|refine gdtbn_pos (by assumption) ?_|refine gdtbn_neg (by assumption) ?_|refine gdfbn_pos (by assumption) ?_|refine gdfbn_neg (by assumption) ?_|refine gdtb_pos (by assumption) ?_|refine gdtb_neg (by assumption) ?_|refine gdtb_split (fun hg => ?_) (fun hg => ?_)|refine gdfb_pos (by assumption) ?_|refine gdfb_neg (by assumption) ?_|refine gdfb_split (fun hg => ?_) (fun hg => ?_)|refine pickT ?_|refine pickF ?_|refine pick_pos (by first|assumption|omega) ?_|refine pick_neg (by first|assumption|omega) ?_|refine pickn_pos (by first|assumption|omega) ?_|refine pickn_neg (by first|assumption|omega) ?_|refine pickbn_pos (by assumption) ?_|refine pickbn_neg (by assumption) ?_|refine pickb_pos (by assumption) ?_|refine pickb_neg (by assumption) ?_|refine condT ?_|refine condF ?_|refine cond_pos (by first|assumption|omega) ?_|refine cond_neg (by first|assumption|omega) ?_|refine condM_dec (fun hg => ?_) (fun hg => ?_)|refine condn_pos (by first|assumption|omega) ?_|refine condn_neg (by first|assumption|omega) ?_|refine condM_ndec (fun hg => ?_) (fun hg => ?_)|refine condbn_pos (by assumption) ?_|refine condbn_neg (by assumption) ?_|refine condbn_split (fun hg => ?_) (fun hg => ?_)|refine condb_pos (by assumption) ?_|refine condb_neg (by assumption) ?_|refine condM_b (fun hg => ?_) (fun hg => ?_))
        | ((with_reducible refine oM_gen (fun Kv hK => ?_)); simp [go_sem]; (try simp (disch := omega) only [wrapI64, wrapU8, wrapU32, wrapU64]); (first | refine hK _ _ ?_ | refine And.intro (by omega) (hK _ _ ?_)); clear hK; clear Kv)))
        · rename_i hin
          rw [if_pos (by assumption)] at hp
          exact ⟨q, h5, d7, t7, hp⟩
        · rename_i hin
          refine ⟨fun sg w' => sg ≤ 5 → w'.heap[w5.heap.size]? = some (.cells #[.int .i64 f, .int .i64 (n : Int)] 103 (0, 0)) ∧ (sg ≤ 2 → w'.heap[b]? = some (.cells (dkCells { A with F := setF A.F f (putB (A.F f).1 a s, (A.F f).2), queue := q } h5) 92 (0, 0))), fun _ => ⟨p7, fun _ => d7.blk⟩, ?_⟩
          iterate 5 (first | (with_reducible refine pureH_in ?_) | (with_reducible refine oH_nil ?_) | (with_reducible refine gdH_true rfl ?_) | (with_reducible refine gdH_false rfl ?_) | (refine oH_of ⟨_, rfl⟩ (fun W0 hW0 => by (obtain ⟨s0, hs0, hC⟩ := hW0); (have hsk : s0 ≤ 2 := by omega); (refine oM_gen (fun Kv hK => ?_)); simp [go_sem, cell_of_block (hC (Nat.le_trans hsk (by decide))).1, cell_of_block ((hC (Nat.le_trans hsk (by decide))).2 hsk), dkCells]; (first | exact hK _ _ ⟨rfl, rfl⟩ | exact ⟨by omega, hK _ _ ⟨rfl, rfl⟩⟩)) ?_))
          iterate 1 (first | (with_reducible refine pureH_in ?_) | (with_reducible refine oH_nil ?_) | (with_reducible refine gdH_true rfl ?_) | (with_reducible refine gdH_false rfl ?_) | (refine oH_of ⟨_, rfl⟩ (fun W0 hW0 => by (obtain ⟨s0, hs0, hC⟩ := hW0); (have hsk : s0 ≤ 5 := by omega); (refine oM_gen (fun Kv hK => ?_)); simp [go_sem, cell_of_block (hC hsk).1]; (first | exact hK _ _ ⟨rfl, rfl⟩ | exact ⟨by omega, hK _ _ ⟨rfl, rfl⟩⟩)) ?_))
          repeat (first | (with_reducible refine pureH_in ?_) | (with_reducible refine oH_nil ?_) | (with_reducible refine gdH_true rfl ?_) | (with_reducible refine gdH_false rfl ?_) | (refine oH_of ⟨_, rfl⟩ (fun W0 hW0 => by (obtain ⟨s0, hs0, hC⟩ := hW0); (have hsk : s0 ≤ 2 := by omega); (refine oM_gen (fun Kv hK => ?_)); simp [go_sem, cell_of_block (hC (Nat.le_trans hsk (by decide))).1, cell_of_block ((hC (Nat.le_trans hsk (by decide))).2 hsk), dkCells]; (first | exact hK _ _ ⟨rfl, rfl⟩ | exact ⟨by omega, hK _ _ ⟨rfl, rfl⟩⟩)) ?_))
          generalize hw8 : ({ w7 with drawn := w7.drawn + 1 } : World) = w8
          have d8 : IsDk w8 b _ h5 := d7.heap (by rw [← hw8])
          have t8 : Step w b h w8 h5 := t7.trans (Step.fresh (by rw [← hw8]; exact (Fr.refl _ _).drew))
          have p8 : w8.heap[w5.heap.size]? = some (.cells #[.int .i64 f, .int .i64 (n : Int)] 103 (0, 0)) := by rw [← hw8]; exact p7
          clear hw8
          repeat (any_goals (first
          | (with_reducible refine pureM_in ?_)
          | (with_reducible first|refine pureQ_in ?_|refine gdQ_conv (fun _ => ?_)|refine pickQT ?_|refine pickQF ?_|refine pickQ_pos (by first|assumption|omega) ?_|refine pickQ_neg (by first|assumption|omega) ?_|refine pickQn_pos (by first|assumption|omega) ?_|refine pickQn_neg (by first|assumption|omega) ?_) | ((with_reducible refine oQ_one ?_ ?_); exact ⟨_, rfl⟩) | (with_reducible first|refine And.intro (Eq.refl (α := World) _) ?_|refine forall_one ?_|refine oQ_nil ?_) | (with_reducible refine oQ_of ⟨_, rfl⟩ (fun W0 hW0 => by (refine oM_gen (fun Kv hK => ?_)); simp [go_sem]; (first | exact hK _ _ ⟨rfl, rfl⟩ | exact ⟨by omega, hK _ _ ⟨rfl, rfl⟩⟩)) ?_)
          | (with_reducible first|refine gdtT ?_|refine gdtF ?_|refine gdfF ?_|refine gdfT ?_|refine gdu ?_ _|refine gdt_pos (by first|assumption|omega) ?_|refine gdt_neg (by first|assumption|omega) ?_|refine gdt_split (fun hg => ?_) (fun hg => ?_)|refine gdf_pos (by first|assumption|omega) ?_|refine gdf_neg (by first|assumption|omega) ?_|refine gdf_split (fun hg => ?_) (fun hg => ?_)|refine gdtn_pos (by first|assumption|omega) ?_|refine gdtn_neg (by first|assumption|omega) ?_|refine gdtn_split (fun hg => ?_) (fun hg => ?_)|refine gdfn_pos (by first|assumption|omega) ?_|refine gdfn_neg (by first|assumption|omega) ?_|refine gdfn_split (fun hg => ?_) (fun hg => ?_)|refine gdtbn_pos (by assumption) ?_|refine gdtbn_neg (by assumption) ?_|refine gdfbn_pos (by assumption) ?_|refine gdfbn_neg (by assumption) ?_|refine gdtb_pos (by assumption) ?_|refine gdtb_neg (by assumption) ?_|refine gdtb_split (fun hg => ?_) (fun hg => ?_)|refine gdfb_pos (by assumption) ?_|refine gdfb_neg (by assumption) ?_|refine gdfb_split (fun hg => ?_) (fun hg => ?_)|refine pickT ?_|refine pickF ?_|refine pick_pos (by first|assumption|omega) ?_|refine pick_neg (by first|assumption|omega) ?_|refine pickn_pos (by first|assumption|omega) ?_|refine pickn_neg (by first|assumption|omega) ?_|refine pickbn_pos (by assumption) ?_|refine pickbn_neg (by assumption) ?_|refine pickb_pos (by assumption) ?_|refine pickb_neg (by assumption) ?_|refine condT ?_|refine condF ?_|refine cond_pos (by first|assumption|omega) ?_|refine cond_neg (by first|assumption|omega) ?_|refine condM_dec (fun hg => ?_) (fun hg => ?_)|refine condn_pos (by first|assumption|omega) ?_|refine condn_neg (by first|assumption|omega) ?_|refine condM_ndec (fun hg => ?_) (fun hg => ?_)|refine condbn_pos (by assumption) ?_|refine condbn_neg (by assumption) ?_|refine condbn_split (fun hg => ?_) (fun hg => ?_)|refine condb_pos (by assumption) ?_|refine condb_neg (by assumption) ?_|refine condM_b (fun hg => ?_) (fun hg => ?_))
          | ((with_reducible refine oM_gen (fun Kv hK => ?_)); simp [go_sem]; (try simp (disch := omega) only [wrapI64, wrapU8, wrapU32, wrapU64]); (first | refine hK _ _ ?_ | refine And.intro (by omega) (hK _ _ ?_)); clear hK; clear Kv)))
          have hnq : (f, (n : Int)) ∉ q := by assumption
          rw [if_neg hnq] at hp
          have hql : q.length ≤ 4194304 := d8.wf.ql
          have b8 : b < w8.heap.size := d8.lt (.inl (.inl rfl))
          have p8l := (Array.getElem?_eq_some_iff.1 p8).1
          have g9 : Fr (fun _ => False) w8 (w8.alloc (.cells #[.int .i64 f, .int .i64 (n : Int)] 103 (0, 0))) := (Fr.refl _ _).alloc _
          have n9 := heap_alloc_new w8 (.cells #[.int .i64 f, .int .i64 (n : Int)] 103 (0, 0))
          have z9 := alloc_size w8 (.cells #[.int .i64 f, .int .i64 (n : Int)] 103 (0, 0))
          generalize w8.alloc (.cells #[.int .i64 f, .int .i64 (n : Int)] 103 (0, 0)) = w9 at *
          have d9 := d8.fresh g9
          have p9 := (g9.block _ p8l (fun h => h)).trans p8
          refine ⟨fun _ => ⟨p9, fun _ => d9.blk⟩, ?_⟩
          refine append_at 90 90 103 ((Tryd.prog.info? 103).getD default) (.agg #[.int .i64 0, .int .i64 0]) 2 16 (by kernel_rfl) (by kernel_rfl) (by kernel_rfl) (by kernel_rfl) (by kernel_rfl) (by kernel_rfl) (by omega) d9.que (secC (f, (n : Int))) rfl ?_ ?_ (secC_one _) (by simp only [maxLen]; show q.length + 1 ≤ _; omega) (by show (q.length + 1) * 16 ≤ _; omega) ?_
          · intro h; cases h
          · rintro ad hu j x hj
            cases hu
            rw [add_none, Nat.zero_add, cell_of_block n9]
            match j, hj with
            | 0, hj => exact hj
            | 1, hj => exact hj
          intro v' w10 ho hg10 hv
          have hqb : h5.q.ownBlock ≠ some b := fun e => (d9.qne e).1 rfl
          have p10 := (hg10.block w5.heap.size (by omega) (fun e => by
            have hq5 := (owns_own d5.que e.symm).1
            omega)).trans p9
          have b10 := (hg10.block b (by omega) (fun e => hqb e.symm)).trans d9.blk
          have c101 := cell_of_block b10 1
          have y101 := frozen_of_block b10 1
          simp [dkCells] at c101
          obtain ⟨va, vc, rfl⟩ := owns_len ho
          have n11 : b ≠ w5.heap.size := by omega
          have p11 : (w10.setCell ⟨b, 1, none⟩ (.slice va (q.length + 1) vc)).heap[w5.heap.size]? = _ := (setCell_heap_ne w10 ⟨b, 1, none⟩ _ _ (Ne.symm n11)).trans p10
          refine ⟨fun _ => ⟨p10, fun _ => b10⟩, ?_⟩
          obtain ⟨ls, ms, hls⟩ := d9.set
          have hsm9 : h5.sm < w9.heap.size := d9.lt (.inl (.inr (.inr (.inl rfl))))
          have m10 : MapIs secV w10 h5.sm ls := ms.of_block (hg10.block _ hsm9 (fun e => (d9.qne e.symm).2.2 rfl))
          have m11 : MapIs secV (w10.setCell ⟨b, 1, none⟩ (.slice va (q.length + 1) vc)) h5.sm ls := m10.of_block (setCell_heap_ne _ _ _ _ d9.bsm.symm)
          obtain ⟨w12, st, hr12, g12, z12, hst⟩ := run_entryNew (P := Tryd.prog) (t := 89) (et := 4) (z := .bool false) keyS (by kernel_rfl) (fun w => by kernel_rfl) m11 (f, (n : Int)) (by rw [hls]; exact if_neg hnq)
          obtain ⟨w13, hr13, m13, g13, z13⟩ := hst (.bool true)
          simp only [secV] at hr12
          repeat (any_goals (first
          | (with_reducible refine pureM_in ?_)
          | (with_reducible first|refine pureQ_in ?_|refine gdQ_conv (fun _ => ?_)|refine pickQT ?_|refine pickQF ?_|refine pickQ_pos (by first|assumption|omega) ?_|refine pickQ_neg (by first|assumption|omega) ?_|refine pickQn_pos (by first|assumption|omega) ?_|refine pickQn_neg (by first|assumption|omega) ?_) | ((with_reducible refine oQ_one ?_ ?_); exact ⟨_, rfl⟩) | (with_reducible first|refine And.intro (Eq.refl (α := World) _) ?_|refine forall_one ?_|refine oQ_nil ?_) | (with_reducible refine oQ_of ⟨_, rfl⟩ (fun W0 hW0 => by (refine oM_gen (fun Kv hK => ?_)); simp [go_sem]; (first | exact hK _ _ ⟨rfl, rfl⟩ | exact ⟨by omega, hK _ _ ⟨rfl, rfl⟩⟩)) ?_)
          | (with_reducible refine And.intro (fun _ => And.intro p10 (fun hs => absurd hs (by decide))) ?_) | (with_reducible refine And.intro (fun _ => And.intro p11 (fun hs => absurd hs (by decide))) ?_) | (with_reducible refine And.intro (fun hs => absurd hs (by decide)) ?_)
          | (with_reducible first|refine gdtT ?_|refine gdtF ?_|refine gdfF ?_|refine gdfT ?_|refine gdu ?_ _|refine gdt_pos (by first|assumption|omega) ?_|refine gdt_neg (by first|assumption|omega) ?_|refine gdt_split (fun hg => ?_) (fun hg => ?_)|refine gdf_pos (by first|assumption|omega) ?_|refine gdf_neg (by first|assumption|omega) ?_|refine gdf_split (fun hg => ?_) (fun hg => ?_)|refine gdtn_pos (by first|assumption|omega) ?_|refine gdtn_neg (by first|assumption|omega) ?_|refine gdtn_split (fun hg => ?_) (fun hg => ?_)|refine gdfn_pos (by first|assumption|omega) ?_|refine gdfn_neg (by first|assumption|omega) ?_|refine gdfn_split (fun hg => ?_) (fun hg => ?_)|refine gdtbn_pos (by assumption) ?_|refine gdtbn_neg (by assumption) ?_|refine gdfbn_pos (by assumption) ?_|refine gdfbn_neg (by assumption) ?_|refine gdtb_pos (by assumption) ?_|refine gdtb_neg (by assumption) ?_|refine gdtb_split (fun hg => ?_) (fun hg => ?_)|refine gdfb_pos (by assumption) ?_|refine gdfb_neg (by assumption) ?_|refine gdfb_split (fun hg => ?_) (fun hg => ?_)|refine pickT ?_|refine pickF ?_|refine pick_pos (by first|assumption|omega) ?_|refine pick_neg (by first|assumption|omega) ?_|refine pickn_pos (by first|assumption|omega) ?_|refine pickn_neg (by first|assumption|omega) ?_|refine pickbn_pos (by assumption) ?_|refine pickbn_neg (by assumption) ?_|refine pickb_pos (by assumption) ?_|refine pickb_neg (by assumption) ?_|refine condT ?_|refine condF ?_|refine cond_pos (by first|assumption|omega) ?_|refine cond_neg (by first|assumption|omega) ?_|refine condM_dec (fun hg => ?_) (fun hg => ?_)|refine condn_pos (by first|assumption|omega) ?_|refine condn_neg (by first|assumption|omega) ?_|refine condM_ndec (fun hg => ?_) (fun hg => ?_)|refine condbn_pos (by assumption) ?_|refine condbn_neg (by assumption) ?_|refine condbn_split (fun hg => ?_) (fun hg => ?_)|refine condb_pos (by assumption) ?_|refine condb_neg (by assumption) ?_|refine condM_b (fun hg => ?_) (fun hg => ?_))
          | ((with_reducible refine oM_gen (fun Kv hK => ?_)); simp [go_sem, c101, y101, hr12, hr13]; (try simp (disch := omega) only [wrapI64, wrapU8, wrapU32, wrapU64]); (first | refine hK _ _ ?_ | refine And.intro (by omega) (hK _ _ ?_)); clear hK; clear Kv)))
          obtain ⟨d13, t13⟩ := push_done d9 hg10 ho hv m13 hls (grownBy_trans g12 g13) (push_wf d9.wf hmay.2 (by omega) hnq)
          exact ⟨q ++ [(f, (n : Int))], _, d13, t8.trans ((Step.fresh g9).trans t13), hp⟩
      · rintro l u w6 ⟨q', h6, d6, t6, hp6⟩
        repeat (any_goals (first
        | (with_reducible refine pureM_in ?_)
        | (with_reducible first|refine pureQ_in ?_|refine gdQ_conv (fun _ => ?_)|refine pickQT ?_|refine pickQF ?_|refine pickQ_pos (by first|assumption|omega) ?_|refine pickQ_neg (by first|assumption|omega) ?_|refine pickQn_pos (by first|assumption|omega) ?_|refine pickQn_neg (by first|assumption|omega) ?_) | ((with_reducible refine oQ_one ?_ ?_); exact ⟨_, rfl⟩) | (with_reducible first|refine And.intro (Eq.refl (α := World) _) ?_|refine forall_one ?_|refine oQ_nil ?_) | (with_reducible refine oQ_of ⟨_, rfl⟩ (fun W0 hW0 => by (refine oM_gen (fun Kv hK => ?_)); simp [go_sem]; (first | exact hK _ _ ⟨rfl, rfl⟩ | exact ⟨by omega, hK _ _ ⟨rfl, rfl⟩⟩)) ?_)
        | (with_reducible first|refine gdtT ?_|refine gdtF ?_|refine gdfF ?_|refine gdfT ?_|refine gdu ?_ _|refine gdt_pos (by first|assumption|omega) ?_|refine gdt_neg (by first|assumption|omega) ?_|refine gdt_split (fun hg => ?_) (fun hg => ?_)|refine gdf_pos (by first|assumption|omega) ?_|refine gdf_neg (by first|assumption|omega) ?_|refine gdf_split (fun hg => ?_) (fun hg => ?_)|refine gdtn_pos (by first|assumption|omega) ?_|refine gdtn_neg (by first|assumption|omega) ?_|refine gdtn_split (fun hg => ?_) (fun hg => ?_)|refine gdfn_pos (by first|assumption|omega) ?_|refine gdfn_neg (by first|assumption|omega) ?_|refine gdfn_split (fun hg => ?_) (fun hg => ?_)|refine gdtbn_pos (by assumption) ?_|refine gdtbn_neg (by assumption) ?_|refine gdfbn_pos (by assumption) ?_|refine gdfbn_neg (by assumption) ?_|refine gdtb_pos (by assumption) ?_|refine gdtb_neg (by assumption) ?_|refine gdtb_split (fun hg => ?_) (fun hg => ?_)|refine gdfb_pos (by assumption) ?_|refine gdfb_neg (by assumption) ?_|refine gdfb_split (fun hg => ?_) (fun hg => ?_)|refine pickT ?_|refine pickF ?_|refine pick_pos (by first|assumption|omega) ?_|refine pick_neg (by first|assumption|omega) ?_|refine pickn_pos (by first|assumption|omega) ?_|refine pickn_neg (by first|assumption|omega) ?_|refine pickbn_pos (by assumption) ?_|refine pickbn_neg (by assumption) ?_|refine pickb_pos (by assumption) ?_|refine pickb_neg (by assumption) ?_|refine condT ?_|refine condF ?_|refine cond_pos (by first|assumption|omega) ?_|refine cond_neg (by first|assumption|omega) ?_|refine condM_dec (fun hg => ?_) (fun hg => ?_)|refine condn_pos (by first|assumption|omega) ?_|refine condn_neg (by first|assumption|omega) ?_|refine condM_ndec (fun hg => ?_) (fun hg => ?_)|refine condbn_pos (by assumption) ?_|refine condbn_neg (by assumption) ?_|refine condbn_split (fun hg => ?_) (fun hg => ?_)|refine condb_pos (by assumption) ?_|refine condb_neg (by assumption) ?_|refine condM_b (fun hg => ?_) (fun hg => ?_))
        | ((with_reducible refine oM_gen (fun Kv hK => ?_)); simp [go_sem]; (try simp (disch := omega) only [wrapI64, wrapU8, wrapU32, wrapU64]); (first | refine hK _ _ ?_ | refine And.intro (by omega) (hK _ _ ?_)); clear hK; clear Kv)))
        refine ⟨⟨n + 1, q', h6, by simp, by omega, d6, t6, hp6⟩, ?_⟩
        show ((m : Int) + 1 - ((n : Int) + 1)).toNat < _
        omega
    · rw [secsFrom_gt (by omega)] at hp
      have hp : q = _ := hp
      refine k0 w5 h5 ?_ t5
      have e : addA A f a s = { A with F := setF A.F f (putB (A.F f).1 a s, (A.F f).2), queue := q } := by
        unfold addA
        rw [if_neg hsne, hp]
      rw [e]
      exact d5
  · exact k' (mayA A f) A (by rw [if_pos hg]) w h d (Step.refl _ _ _)
end
end Go.Proofs
namespace Go.Proofs
open Go Go.Sh Go.RowKit DkSpec
set_option linter.unusedSimpArgs false
set_option maxRecDepth 10000
attribute [local go_sem] oM_indexAddr
section
variable {w : World} {b : Nat} {A : Ab} {h : Dk} {K : Value → World → Prop}
theorem isBody56 : isBody Tryd.prog 104 = true := by kernel_rfl
theorem isBody58 : isBody Tryd.prog 106 = true := by kernel_rfl
theorem test1_ok {x : Nat} {f : Int} (p : Int × Int) (hx : w.heap[x]? = some (.cells #[.int .i64 f] 3 (0, 0))) (k : ∀ w', Fr (fun _ => False) w w' → K (.bool (decide (p.1 = f))) w') : callM Tryd.prog 104 #[.agg #[.int .i64 p.1, .int .i64 p.2], .pointer (some ⟨x, 0, none⟩)] K w := by
  apply sh_104_ok
  unfold sh_104
  have hlt := (Array.getElem?_eq_some_iff.1 hx).1
  have f0 : Fr (fun _ => False) w (w.alloc (.cells #[.int .i64 p.1, .int .i64 p.2] 103 (0, 0))) := (Fr.refl _ _).alloc _
  have hx2 := (f0.block x hlt (fun h => h)).trans hx
  have e := cell_of_block hx2 0
  simp at e
  repeat (any_goals (first
  | (with_reducible refine pureM_in ?_)
  | (with_reducible first|refine pureQ_in ?_|refine gdQ_conv (fun _ => ?_)|refine pickQT ?_|refine pickQF ?_|refine pickQ_pos (by first|assumption|omega) ?_|refine pickQ_neg (by first|assumption|omega) ?_|refine pickQn_pos (by first|assumption|omega) ?_|refine pickQn_neg (by first|assumption|omega) ?_) | ((with_reducible refine oQ_one ?_ ?_); exact ⟨_, rfl⟩) | (with_reducible first|refine And.intro (Eq.refl (α := World) _) ?_|refine forall_one ?_|refine oQ_nil ?_) | (with_reducible refine oQ_of ⟨_, rfl⟩ (fun W0 hW0 => by (refine oM_gen (fun Kv hK => ?_)); simp [go_sem]; (first | exact hK _ _ ⟨rfl, rfl⟩ | exact ⟨by omega, hK _ _ ⟨rfl, rfl⟩⟩)) ?_)
  | (with_reducible first|refine gdtT ?_|refine gdtF ?_|refine gdfF ?_|refine gdfT ?_|refine gdu ?_ _|refine gdt_pos (by first|assumption|omega) ?_|refine gdt_neg (by first|assumption|omega) ?_|refine gdt_split (fun hg => ?_) (fun hg => ?_)|refine gdf_pos (by first|assumption|omega) ?_|refine gdf_neg (by first|assumption|omega) ?_|refine gdf_split (fun hg => ?_) (fun hg => ?_)|refine gdtn_pos (by first|assumption|omega) ?_|refine gdtn_neg (by first|assumption|omega) ?_|refine gdtn_split (fun hg => ?_) (fun hg => ?_)|refine gdfn_pos (by first|assumption|omega) ?_|refine gdfn_neg (by first|assumption|omega) ?_|refine gdfn_split (fun hg => ?_) (fun hg => ?_)|refine gdtbn_pos (by assumption) ?_|refine gdtbn_neg (by assumption) ?_|refine gdfbn_pos (by assumption) ?_|refine gdfbn_neg (by assumption) ?_|refine gdtb_pos (by assumption) ?_|refine gdtb_neg (by assumption) ?_|refine gdtb_split (fun hg => ?_) (fun hg => ?_)|refine gdfb_pos (by assumption) ?_|refine gdfb_neg (by assumption) ?_|refine gdfb_split (fun hg => ?_) (fun hg => ?_)|refine pickT ?_|refine pickF ?_|refine pick_pos (by first|assumption|omega) ?_|refine pick_neg (by first|assumption|omega) ?_|refine pickn_pos (by first|assumption|omega) ?_|refine pickn_neg (by first|assumption|omega) ?_|refine pickbn_pos (by assumption) ?_|refine pickbn_neg (by assumption) ?_|refine pickb_pos (by assumption) ?_|refine pickb_neg (by assumption) ?_|refine condT ?_|refine condF ?_|refine cond_pos (by first|assumption|omega) ?_|refine cond_neg (by first|assumption|omega) ?_|refine condM_dec (fun hg => ?_) (fun hg => ?_)|refine condn_pos (by first|assumption|omega) ?_|refine condn_neg (by first|assumption|omega) ?_|refine condM_ndec (fun hg => ?_) (fun hg => ?_)|refine condbn_pos (by assumption) ?_|refine condbn_neg (by assumption) ?_|refine condbn_split (fun hg => ?_) (fun hg => ?_)|refine condb_pos (by assumption) ?_|refine condb_neg (by assumption) ?_|refine condM_b (fun hg => ?_) (fun hg => ?_))
  | ((with_reducible refine oM_gen (fun Kv hK => ?_)); simp [go_sem, e]; (try simp (disch := omega) only [wrapI64, wrapU8, wrapU32, wrapU64]); (first | refine hK _ _ ?_ | refine And.intro (by omega) (hK _ _ ?_)); clear hK; clear Kv)))
  exact k _ f0
theorem test2_ok {x : Nat} {f : Int} (p : Int × Int) (v : Value) (hx : w.heap[x]? = some (.cells #[.int .i64 f] 3 (0, 0))) (k : ∀ w', Fr (fun _ => False) w w' → K (.bool (decide (p.1 = f))) w') : callM Tryd.prog 106 #[.agg #[.int .i64 p.1, .int .i64 p.2], v, .pointer (some ⟨x, 0, none⟩)] K w := by
  apply sh_106_ok
  unfold sh_106
  have hlt := (Array.getElem?_eq_some_iff.1 hx).1
  have f0 : Fr (fun _ => False) w (w.alloc (.cells #[.int .i64 p.1, .int .i64 p.2] 103 (0, 0))) := (Fr.refl _ _).alloc _
  have hx2 := (f0.block x hlt (fun h => h)).trans hx
  have e := cell_of_block hx2 0
  simp at e
  repeat (any_goals (first
  | (with_reducible refine pureM_in ?_)
  | (with_reducible first|refine pureQ_in ?_|refine gdQ_conv (fun _ => ?_)|refine pickQT ?_|refine pickQF ?_|refine pickQ_pos (by first|assumption|omega) ?_|refine pickQ_neg (by first|assumption|omega) ?_|refine pickQn_pos (by first|assumption|omega) ?_|refine pickQn_neg (by first|assumption|omega) ?_) | ((with_reducible refine oQ_one ?_ ?_); exact ⟨_, rfl⟩) | (with_reducible first|refine And.intro (Eq.refl (α := World) _) ?_|refine forall_one ?_|refine oQ_nil ?_) | (with_reducible refine oQ_of ⟨_, rfl⟩ (fun W0 hW0 => by (refine oM_gen (fun Kv hK => ?_)); simp [go_sem]; (first | exact hK _ _ ⟨rfl, rfl⟩ | exact ⟨by omega, hK _ _ ⟨rfl, rfl⟩⟩)) ?_)
  | (with_reducible first|refine gdtT ?_|refine gdtF ?_|refine gdfF ?_|refine gdfT ?_|refine gdu ?_ _|refine gdt_pos (by first|assumption|omega) ?_|refine gdt_neg (by first|assumption|omega) ?_|refine gdt_split (fun hg => ?_) (fun hg => ?_)|refine gdf_pos (by first|assumption|omega) ?_|refine gdf_neg (by first|assumption|omega) ?_|refine gdf_split (fun hg => ?_) (fun hg => ?_)|refine gdtn_pos (by first|assumption|omega) ?_|refine gdtn_neg (by first|assumption|omega) ?_|refine gdtn_split (fun hg => ?_) (fun hg => ?_)|refine gdfn_pos (by first|assumption|omega) ?_|refine gdfn_neg (by first|assumption|omega) ?_|refine gdfn_split (fun hg => ?_) (fun hg => ?_)|refine gdtbn_pos (by assumption) ?_|refine gdtbn_neg (by assumption) ?_|refine gdfbn_pos (by assumption) ?_|refine gdfbn_neg (by assumption) ?_|refine gdtb_pos (by assumption) ?_|refine gdtb_neg (by assumption) ?_|refine gdtb_split (fun hg => ?_) (fun hg => ?_)|refine gdfb_pos (by assumption) ?_|refine gdfb_neg (by assumption) ?_|refine gdfb_split (fun hg => ?_) (fun hg => ?_)|refine pickT ?_|refine pickF ?_|refine pick_pos (by first|assumption|omega) ?_|refine pick_neg (by first|assumption|omega) ?_|refine pickn_pos (by first|assumption|omega) ?_|refine pickn_neg (by first|assumption|omega) ?_|refine pickbn_pos (by assumption) ?_|refine pickbn_neg (by assumption) ?_|refine pickb_pos (by assumption) ?_|refine pickb_neg (by assumption) ?_|refine condT ?_|refine condF ?_|refine cond_pos (by first|assumption|omega) ?_|refine cond_neg (by first|assumption|omega) ?_|refine condM_dec (fun hg => ?_) (fun hg => ?_)|refine condn_pos (by first|assumption|omega) ?_|refine condn_neg (by first|assumption|omega) ?_|refine condM_ndec (fun hg => ?_) (fun hg => ?_)|refine condbn_pos (by assumption) ?_|refine condbn_neg (by assumption) ?_|refine condbn_split (fun hg => ?_) (fun hg => ?_)|refine condb_pos (by assumption) ?_|refine condb_neg (by assumption) ?_|refine condM_b (fun hg => ?_) (fun hg => ?_))
  | ((with_reducible refine oM_gen (fun Kv hK => ?_)); simp [go_sem, e]; (try simp (disch := omega) only [wrapI64, wrapU8, wrapU32, wrapU64]); (first | refine hK _ _ ?_ | refine And.intro (by omega) (hK _ _ ?_)); clear hK; clear Kv)))
  exact k _ f0
def idxOf (f : Int) : List (Int × Int) → Int
  | [] => -1
  | p :: q => if p.1 = f then 0 else if idxOf f q = -1 then -1 else idxOf f q + 1
theorem idxOf_split (f : Int) (q : List (Int × Int)) : (idxOf f q = -1 ∧ ∀ p ∈ q, p.1 ≠ f) ∨ ∃ q1 p q2, q = q1 ++ p :: q2 ∧ p.1 = f ∧ (∀ r ∈ q1, r.1 ≠ f) ∧ idxOf f q = q1.length := by
  induction q with
  | nil => exact .inl ⟨rfl, by simp⟩
  | cons p q ih =>
    by_cases hp : p.1 = f
    · exact .inr ⟨[], p, q, rfl, hp, by simp, by simp [idxOf, hp]⟩
    · rcases ih with ⟨h1, h2⟩ | ⟨q1, r, q2, rfl, h2, h3, h4⟩
      · refine .inl ⟨by simp [idxOf, hp, h1], ?_⟩
        intro r hr
        rcases List.mem_cons.1 hr with rfl | hr
        · exact hp
        · exact h2 r hr
      · refine .inr ⟨p :: q1, r, q2, rfl, h2, ?_, ?_⟩
        · intro x hx
          rcases List.mem_cons.1 hx with rfl | hx
          · exact hp
          · exact h3 x hx
        · simp only [idxOf, hp, if_false, h4, List.length_cons]
          rw [if_neg (by omega)]
          omega
theorem idxOf_drop (f : Int) (q : List (Int × Int)) (j : Nat) (hj : ∀ p ∈ q.take j, p.1 ≠ f) (p : Int × Int) (hp : q[j]? = some p) (hf : p.1 = f) : idxOf f q = j := by
  induction q generalizing j with
  | nil => simp at hp
  | cons r q ih =>
    cases j with
    | zero =>
      simp only [List.getElem?_cons_zero, Option.some.injEq] at hp
      subst hp
      simp [idxOf, hf]
    | succ j =>
      have hr : r.1 ≠ f := hj r (by simp)
      have := ih j (fun x hx => hj x (by simp [hx])) (by simpa using hp)
      simp only [idxOf, hr, if_false, this]
      rw [if_neg (by omega)]
      omega
theorem idxOf_none (f : Int) (q : List (Int × Int)) (h : ∀ p ∈ q, p.1 ≠ f) : idxOf f q = -1 := by
  induction q with
  | nil => rfl
  | cons r q ih =>
    have hr : r.1 ≠ f := h r (List.mem_cons_self ..)
    simp [idxOf, hr, ih (fun p hp => h p (List.mem_cons_of_mem _ hp))]
theorem sec_cells {v : Value} {q : List (Int × Int)} (ho : w.ownsRow 0 103 2 v q.length (flat secC q)) {j : Nat} {p : Int × Int} (hj : q[j]? = some p) : ∃ g c, v = .slice (some ⟨g, 0, none⟩) q.length c ∧ w.cell? ⟨g, j * 2, none⟩ = some (.int .i64 p.1) ∧ w.cell? ⟨g, j * 2 + 1, none⟩ = some (.int .i64 p.2) := by
  have hlt := (List.getElem?_eq_some_iff.1 hj).1
  obtain ⟨g, cap, cur, rfl, _, _, _, _, _, hc⟩ := owns_cells ho (by omega)
  refine ⟨g, cap, rfl, hc _ _ ?_, hc _ _ ?_⟩
  · have := flat_at secC_len q j 0 hj (by omega)
    simpa [secC] using this
  · have := flat_at secC_len q j 1 hj (by omega)
    simpa [secC] using this
theorem idxSec {g n c k : Nat} (hk : k < n) (w : World) : (Instr.indexAt 90 (.slice (some ⟨g, 0, none⟩) n c) (.int .i64 k)).run Tryd.prog w = .ok (.pointer (some ⟨g, k * 2, none⟩)) w := by
  rw [run_indexAt_slice (h := by kernel_rfl), if_pos (by omega)]
  have hs : (sizeOf (Tryd.prog.elem 90)).run Tryd.prog w = .ok 2 w := by kernel_rfl
  rw [hs]
  simp only [Result.andThen, Int.toNat_natCast, add_none, Nat.zero_add]
theorem index_ok {x : Nat} {f : Int} {v : Value} {q : List (Int × Int)} (hq : q.length < 2 ^ 40) (hx : w.heap[x]? = some (.cells #[.int .i64 f] 3 (0, 0))) (ho : w.ownsRow 0 103 2 v q.length (flat secC q)) (k : ∀ w', Fr (fun _ => False) w w' → K (.int .i64 (idxOf f q)) w') : callM Tryd.prog 119 #[v, .func (.func 104) #[] #[.pointer (some ⟨x, 0, none⟩)]] K w := by
  apply sh_119_ok
  unfold sh_119
  obtain ⟨va, vc, rfl⟩ := owns_len ho
  repeat (any_goals (first
  | (with_reducible refine pureM_in ?_)
  | (with_reducible first|refine pureQ_in ?_|refine gdQ_conv (fun _ => ?_)|refine pickQT ?_|refine pickQF ?_|refine pickQ_pos (by first|assumption|omega) ?_|refine pickQ_neg (by first|assumption|omega) ?_|refine pickQn_pos (by first|assumption|omega) ?_|refine pickQn_neg (by first|assumption|omega) ?_) | ((with_reducible refine oQ_one ?_ ?_); exact ⟨_, rfl⟩) | (with_reducible first|refine And.intro (Eq.refl (α := World) _) ?_|refine forall_one ?_|refine oQ_nil ?_) | (with_reducible refine oQ_of ⟨_, rfl⟩ (fun W0 hW0 => by (refine oM_gen (fun Kv hK => ?_)); simp [go_sem]; (first | exact hK _ _ ⟨rfl, rfl⟩ | exact ⟨by omega, hK _ _ ⟨rfl, rfl⟩⟩)) ?_)
  | (with_reducible first|refine gdtT ?_|refine gdtF ?_|refine gdfF ?_|refine gdfT ?_|refine gdu ?_ _|refine gdt_pos (by first|assumption|omega) ?_|refine gdt_neg (by first|assumption|omega) ?_|refine gdt_split (fun hg => ?_) (fun hg => ?_)|refine gdf_pos (by first|assumption|omega) ?_|refine gdf_neg (by first|assumption|omega) ?_|refine gdf_split (fun hg => ?_) (fun hg => ?_)|refine gdtn_pos (by first|assumption|omega) ?_|refine gdtn_neg (by first|assumption|omega) ?_|refine gdtn_split (fun hg => ?_) (fun hg => ?_)|refine gdfn_pos (by first|assumption|omega) ?_|refine gdfn_neg (by first|assumption|omega) ?_|refine gdfn_split (fun hg => ?_) (fun hg => ?_)|refine gdtbn_pos (by assumption) ?_|refine gdtbn_neg (by assumption) ?_|refine gdfbn_pos (by assumption) ?_|refine gdfbn_neg (by assumption) ?_|refine gdtb_pos (by assumption) ?_|refine gdtb_neg (by assumption) ?_|refine gdtb_split (fun hg => ?_) (fun hg => ?_)|refine gdfb_pos (by assumption) ?_|refine gdfb_neg (by assumption) ?_|refine gdfb_split (fun hg => ?_) (fun hg => ?_)|refine pickT ?_|refine pickF ?_|refine pick_pos (by first|assumption|omega) ?_|refine pick_neg (by first|assumption|omega) ?_|refine pickn_pos (by first|assumption|omega) ?_|refine pickn_neg (by first|assumption|omega) ?_|refine pickbn_pos (by assumption) ?_|refine pickbn_neg (by assumption) ?_|refine pickb_pos (by assumption) ?_|refine pickb_neg (by assumption) ?_|refine condT ?_|refine condF ?_|refine cond_pos (by first|assumption|omega) ?_|refine cond_neg (by first|assumption|omega) ?_|refine condM_dec (fun hg => ?_) (fun hg => ?_)|refine condn_pos (by first|assumption|omega) ?_|refine condn_neg (by first|assumption|omega) ?_|refine condM_ndec (fun hg => ?_) (fun hg => ?_)|refine condbn_pos (by assumption) ?_|refine condbn_neg (by assumption) ?_|refine condbn_split (fun hg => ?_) (fun hg => ?_)|refine condb_pos (by assumption) ?_|refine condb_neg (by assumption) ?_|refine condM_b (fun hg => ?_) (fun hg => ?_))
  | ((with_reducible refine oM_gen (fun Kv hK => ?_)); simp [go_sem]; (try simp (disch := omega) only [wrapI64, wrapU8, wrapU32, wrapU64]); (first | refine hK _ _ ?_ | refine And.intro (by omega) (hK _ _ ?_)); clear hK; clear Kv)))
  refine ⟨fun l w' => ∃ u1 u2, ∃ j : Nat, l = [u1, u2, .int .i64 (j : Int)] ∧ j ≤ q.length ∧ (∀ p ∈ q.take j, p.1 ≠ f) ∧ Fr (fun _ => False) w w', fun l _ => match l with | [_, _, .int _ n] => ((q.length : Int) - n).toNat | _ => 0, ⟨_, _, 0, rfl, by omega, by simp, Fr.refl _ _⟩, ?_⟩
  rintro l u w1 ⟨u1, u2, j, rfl, hj, hpre, fr⟩
  simp only [List.getD_cons_zero, List.getD_cons_succ]
  repeat (any_goals (first
  | (with_reducible refine pureM_in ?_)
  | (with_reducible first|refine pureQ_in ?_|refine gdQ_conv (fun _ => ?_)|refine pickQT ?_|refine pickQF ?_|refine pickQ_pos (by first|assumption|omega) ?_|refine pickQ_neg (by first|assumption|omega) ?_|refine pickQn_pos (by first|assumption|omega) ?_|refine pickQn_neg (by first|assumption|omega) ?_) | ((with_reducible refine oQ_one ?_ ?_); exact ⟨_, rfl⟩) | (with_reducible first|refine And.intro (Eq.refl (α := World) _) ?_|refine forall_one ?_|refine oQ_nil ?_) | (with_reducible refine oQ_of ⟨_, rfl⟩ (fun W0 hW0 => by (refine oM_gen (fun Kv hK => ?_)); simp [go_sem]; (first | exact hK _ _ ⟨rfl, rfl⟩ | exact ⟨by omega, hK _ _ ⟨rfl, rfl⟩⟩)) ?_)
  | (with_reducible first|refine gdtT ?_|refine gdtF ?_|refine gdfF ?_|refine gdfT ?_|refine gdu ?_ _|refine gdt_pos (by first|assumption|omega) ?_|refine gdt_neg (by first|assumption|omega) ?_|refine gdt_split (fun hg => ?_) (fun hg => ?_)|refine gdf_pos (by first|assumption|omega) ?_|refine gdf_neg (by first|assumption|omega) ?_|refine gdf_split (fun hg => ?_) (fun hg => ?_)|refine gdtn_pos (by first|assumption|omega) ?_|refine gdtn_neg (by first|assumption|omega) ?_|refine gdtn_split (fun hg => ?_) (fun hg => ?_)|refine gdfn_pos (by first|assumption|omega) ?_|refine gdfn_neg (by first|assumption|omega) ?_|refine gdfn_split (fun hg => ?_) (fun hg => ?_)|refine gdtbn_pos (by assumption) ?_|refine gdtbn_neg (by assumption) ?_|refine gdfbn_pos (by assumption) ?_|refine gdfbn_neg (by assumption) ?_|refine gdtb_pos (by assumption) ?_|refine gdtb_neg (by assumption) ?_|refine gdtb_split (fun hg => ?_) (fun hg => ?_)|refine gdfb_pos (by assumption) ?_|refine gdfb_neg (by assumption) ?_|refine gdfb_split (fun hg => ?_) (fun hg => ?_)|refine pickT ?_|refine pickF ?_|refine pick_pos (by first|assumption|omega) ?_|refine pick_neg (by first|assumption|omega) ?_|refine pickn_pos (by first|assumption|omega) ?_|refine pickn_neg (by first|assumption|omega) ?_|refine pickbn_pos (by assumption) ?_|refine pickbn_neg (by assumption) ?_|refine pickb_pos (by assumption) ?_|refine pickb_neg (by assumption) ?_|refine condT ?_|refine condF ?_|refine cond_pos (by first|assumption|omega) ?_|refine cond_neg (by first|assumption|omega) ?_|refine condM_dec (fun hg => ?_) (fun hg => ?_)|refine condn_pos (by first|assumption|omega) ?_|refine condn_neg (by first|assumption|omega) ?_|refine condM_ndec (fun hg => ?_) (fun hg => ?_)|refine condbn_pos (by assumption) ?_|refine condbn_neg (by assumption) ?_|refine condbn_split (fun hg => ?_) (fun hg => ?_)|refine condb_pos (by assumption) ?_|refine condb_neg (by assumption) ?_|refine condM_b (fun hg => ?_) (fun hg => ?_))
  | ((with_reducible refine oM_gen (fun Kv hK => ?_)); simp [go_sem]; (try simp (disch := omega) only [wrapI64, wrapU8, wrapU32, wrapU64]); (first | refine hK _ _ ?_ | refine And.intro (by omega) (hK _ _ ?_)); clear hK; clear Kv)))
  · have hlt : j < q.length := by omega
    have hx1 := (fr.block x (Array.getElem?_eq_some_iff.1 hx).1 (fun h => h)).trans hx
    have ho1 : w1.ownsRow 0 103 2 (.slice va q.length vc) q.length (flat secC q) := owns_keep ho (fun i hi => fr.block i (owns_own ho hi).1 (fun h => h))
    obtain ⟨g, c, hv, e0, e1⟩ := sec_cells ho1 (List.getElem?_eq_getElem hlt)
    cases hv
    have hix := idxSec (c := vc) (g := g) hlt w1
    repeat (any_goals (first
    | (with_reducible refine pureM_in ?_)
    | (with_reducible first|refine pureQ_in ?_|refine gdQ_conv (fun _ => ?_)|refine pickQT ?_|refine pickQF ?_|refine pickQ_pos (by first|assumption|omega) ?_|refine pickQ_neg (by first|assumption|omega) ?_|refine pickQn_pos (by first|assumption|omega) ?_|refine pickQn_neg (by first|assumption|omega) ?_) | ((with_reducible refine oQ_one ?_ ?_); exact ⟨_, rfl⟩) | (with_reducible first|refine And.intro (Eq.refl (α := World) _) ?_|refine forall_one ?_|refine oQ_nil ?_) | (with_reducible refine oQ_of ⟨_, rfl⟩ (fun W0 hW0 => by (refine oM_gen (fun Kv hK => ?_)); simp [go_sem]; (first | exact hK _ _ ⟨rfl, rfl⟩ | exact ⟨by omega, hK _ _ ⟨rfl, rfl⟩⟩)) ?_)
    | (with_reducible refine oM_callv1 isBody56 ?_)
    | (with_reducible first|refine gdtT ?_|refine gdtF ?_|refine gdfF ?_|refine gdfT ?_|refine gdu ?_ _|refine gdt_pos (by first|assumption|omega) ?_|refine gdt_neg (by first|assumption|omega) ?_|refine gdt_split (fun hg => ?_) (fun hg => ?_)|refine gdf_pos (by first|assumption|omega) ?_|refine gdf_neg (by first|assumption|omega) ?_|refine gdf_split (fun hg => ?_) (fun hg => ?_)|refine gdtn_pos (by first|assumption|omega) ?_|refine gdtn_neg (by first|assumption|omega) ?_|refine gdtn_split (fun hg => ?_) (fun hg => ?_)|refine gdfn_pos (by first|assumption|omega) ?_|refine gdfn_neg (by first|assumption|omega) ?_|refine gdfn_split (fun hg => ?_) (fun hg => ?_)|refine gdtbn_pos (by assumption) ?_|refine gdtbn_neg (by assumption) ?_|refine gdfbn_pos (by assumption) ?_|refine gdfbn_neg (by assumption) ?_|refine gdtb_pos (by assumption) ?_|refine gdtb_neg (by assumption) ?_|refine gdtb_split (fun hg => ?_) (fun hg => ?_)|refine gdfb_pos (by assumption) ?_|refine gdfb_neg (by assumption) ?_|refine gdfb_split (fun hg => ?_) (fun hg => ?_)|refine pickT ?_|refine pickF ?_|refine pick_pos (by first|assumption|omega) ?_|refine pick_neg (by first|assumption|omega) ?_|refine pickn_pos (by first|assumption|omega) ?_|refine pickn_neg (by first|assumption|omega) ?_|refine pickbn_pos (by assumption) ?_|refine pickbn_neg (by assumption) ?_|refine pickb_pos (by assumption) ?_|refine pickb_neg (by assumption) ?_|refine condT ?_|refine condF ?_|refine cond_pos (by first|assumption|omega) ?_|refine cond_neg (by first|assumption|omega) ?_|refine condM_dec (fun hg => ?_) (fun hg => ?_)|refine condn_pos (by first|assumption|omega) ?_|refine condn_neg (by first|assumption|omega) ?_|refine condM_ndec (fun hg => ?_) (fun hg => ?_)|refine condbn_pos (by assumption) ?_|refine condbn_neg (by assumption) ?_|refine condbn_split (fun hg => ?_) (fun hg => ?_)|refine condb_pos (by assumption) ?_|refine condb_neg (by assumption) ?_|refine condM_b (fun hg => ?_) (fun hg => ?_))
    | ((with_reducible refine oM_gen (fun Kv hK => ?_)); simp [go_sem, hix, e0, e1]; (try simp (disch := omega) only [wrapI64, wrapU8, wrapU32, wrapU64]); (first | refine hK _ _ ?_ | refine And.intro (by omega) (hK _ _ ?_)); clear hK; clear Kv)))
    refine test1_ok (f := f) q[j] hx1 (fun w2 f2 => ?_)
    repeat (any_goals (first
    | (with_reducible refine pureM_in ?_)
    | (with_reducible first|refine pureQ_in ?_|refine gdQ_conv (fun _ => ?_)|refine pickQT ?_|refine pickQF ?_|refine pickQ_pos (by first|assumption|omega) ?_|refine pickQ_neg (by first|assumption|omega) ?_|refine pickQn_pos (by first|assumption|omega) ?_|refine pickQn_neg (by first|assumption|omega) ?_) | ((with_reducible refine oQ_one ?_ ?_); exact ⟨_, rfl⟩) | (with_reducible first|refine And.intro (Eq.refl (α := World) _) ?_|refine forall_one ?_|refine oQ_nil ?_) | (with_reducible refine oQ_of ⟨_, rfl⟩ (fun W0 hW0 => by (refine oM_gen (fun Kv hK => ?_)); simp [go_sem]; (first | exact hK _ _ ⟨rfl, rfl⟩ | exact ⟨by omega, hK _ _ ⟨rfl, rfl⟩⟩)) ?_)
    | (with_reducible first|refine gdtT ?_|refine gdtF ?_|refine gdfF ?_|refine gdfT ?_|refine gdu ?_ _|refine gdt_pos (by first|assumption|omega) ?_|refine gdt_neg (by first|assumption|omega) ?_|refine gdt_split (fun hg => ?_) (fun hg => ?_)|refine gdf_pos (by first|assumption|omega) ?_|refine gdf_neg (by first|assumption|omega) ?_|refine gdf_split (fun hg => ?_) (fun hg => ?_)|refine gdtn_pos (by first|assumption|omega) ?_|refine gdtn_neg (by first|assumption|omega) ?_|refine gdtn_split (fun hg => ?_) (fun hg => ?_)|refine gdfn_pos (by first|assumption|omega) ?_|refine gdfn_neg (by first|assumption|omega) ?_|refine gdfn_split (fun hg => ?_) (fun hg => ?_)|refine gdtbn_pos (by assumption) ?_|refine gdtbn_neg (by assumption) ?_|refine gdfbn_pos (by assumption) ?_|refine gdfbn_neg (by assumption) ?_|refine gdtb_pos (by assumption) ?_|refine gdtb_neg (by assumption) ?_|refine gdtb_split (fun hg => ?_) (fun hg => ?_)|refine gdfb_pos (by assumption) ?_|refine gdfb_neg (by assumption) ?_|refine gdfb_split (fun hg => ?_) (fun hg => ?_)|refine pickT ?_|refine pickF ?_|refine pick_pos (by first|assumption|omega) ?_|refine pick_neg (by first|assumption|omega) ?_|refine pickn_pos (by first|assumption|omega) ?_|refine pickn_neg (by first|assumption|omega) ?_|refine pickbn_pos (by assumption) ?_|refine pickbn_neg (by assumption) ?_|refine pickb_pos (by assumption) ?_|refine pickb_neg (by assumption) ?_|refine condT ?_|refine condF ?_|refine cond_pos (by first|assumption|omega) ?_|refine cond_neg (by first|assumption|omega) ?_|refine condM_dec (fun hg => ?_) (fun hg => ?_)|refine condn_pos (by first|assumption|omega) ?_|refine condn_neg (by first|assumption|omega) ?_|refine condM_ndec (fun hg => ?_) (fun hg => ?_)|refine condbn_pos (by assumption) ?_|refine condbn_neg (by assumption) ?_|refine condbn_split (fun hg => ?_) (fun hg => ?_)|refine condb_pos (by assumption) ?_|refine condb_neg (by assumption) ?_|refine condM_b (fun hg => ?_) (fun hg => ?_))
    | ((with_reducible refine oM_gen (fun Kv hK => ?_)); simp [go_sem]; (try simp (disch := omega) only [wrapI64, wrapU8, wrapU32, wrapU64]); (first | refine hK _ _ ?_ | refine And.intro (by omega) (hK _ _ ?_)); clear hK; clear Kv)))
    · have hg' : q[j].1 = f := by assumption
      rw [idxOf_drop f q j hpre _ (List.getElem?_eq_getElem hlt) hg'] at k
      exact k w2 (fr.trans f2 (fun _ h => h.elim))
    · have hg' : ¬ q[j].1 = f := by assumption
      refine ⟨⟨_, _, j + 1, rfl, by omega, ?_, fr.trans f2 (fun _ h => h.elim)⟩, ?_⟩
      · intro p hp
        rw [List.take_succ_eq_append_getElem hlt] at hp
        rcases List.mem_append.1 hp with hp | hp
        · exact hpre p hp
        · simp only [List.mem_singleton] at hp
          rw [hp]; exact hg'
      · show ((q.length : Int) - ((j : Int) + 1)).toNat < _
        omega
  · rw [idxOf_none f q (by
      rw [List.take_of_length_le (by omega)] at hpre
      exact hpre)] at k
    exact k w1 fr
theorem clear_at {t T e : TypeId} {z : Value} {g o n c : Nat} {cur : Array Value} {zs : List Value} (ht : Tryd.prog.underlying t = some (.slice e)) (hv : ∀ w, (zeroValue e).run Tryd.prog w = .ok z w) (hn : 0 < n) (hzs : (Builtin.zeroCells z.cells n).toList = zs) (h1 : ∀ v ∈ zs, v.oneCell' = true) (hg : w.heap[g]? = some (.cells cur e (0, 0))) (hfit : o + zs.length ≤ cur.size)
    (k : ∀ w' cur', w.grownBy w' (some g) → w'.heap[g]? = some (.cells cur' e (0, 0)) → cur'.size = cur.size → (∀ i, i < o → cur'[i]? = cur[i]?) → K (.tuple #[]) w') : oM Tryd.prog (.call { callee := .builtin .clear, args := #[.tmp 0], argTypes := #[t] }) T [.slice (some ⟨g, o, none⟩) n c] K w := by
  have hst := run_storeCells_at Tryd.prog g o e zs 0 cur w hg (by simpa using hfit) h1
  rw [oM_clear]
  have hr : (Builtin.clear_ #[t] T #[.slice (some ⟨g, o, none⟩) n c]).run Tryd.prog w = .ok (.tuple #[]) (w.setRow g (cur.toList.take o ++ zs ++ cur.toList.drop (o + zs.length)).toArray) := by
    obtain ⟨m, rfl⟩ : ∃ m, n = m + 1 := ⟨n - 1, by omega⟩
    simp only [Nat.add_zero] at hst
    simp [Builtin.clear_, run_underlying ht, hv, hzs, hst]
  rw [hr]
  refine k _ _ (grown_setRow _ _ _) (setRow_heap w g _ _ e (0, 0) hg) ?_ ?_
  · simp
    omega
  · intro i hi
    simp only [List.getElem?_toArray, List.append_assoc]
    rw [List.getElem?_append_left (by simp; omega), List.getElem?_take_of_lt hi]
    simp
theorem store2_at {t T e : TypeId} {x y : Value} {g o : Nat} {cur : Array Value} (hs : ∀ w, (sizeOf t).run Tryd.prog w = .ok 2 w) (hx : x.oneCell' = true) (hy : y.oneCell' = true) (hg : w.heap[g]? = some (.cells cur e (0, 0))) (hfit : o + 2 ≤ cur.size)
    (k : ∀ w' cur', w.grownBy w' (some g) → w'.heap[g]? = some (.cells cur' e (0, 0)) → cur'.size = cur.size → (∀ i, i ≠ o → i ≠ o + 1 → cur'[i]? = cur[i]?) → cur'[o]? = some x → cur'[o + 1]? = some y → K undef w') : oM Tryd.prog (.store t (.tmp 0) (.tmp 1)) T [.pointer (some ⟨g, o, none⟩), .agg #[x, y]] K w := by
  have hst := run_storeCells_at Tryd.prog g o e [x, y] 0 cur w hg (by simpa using hfit) (by
    intro v hv
    simp at hv
    rcases hv with rfl | rfl
    · exact hx
    · exact hy)
  rw [oM_store]
  have hr : (Instr.storeAt t (.pointer (some ⟨g, o, none⟩)) (.agg #[x, y])).run Tryd.prog w = .ok () (w.setRow g (cur.toList.take o ++ [x, y] ++ cur.toList.drop (o + 2)).toArray) := by
    simp only [Nat.add_zero, List.length_cons, List.length_nil, Nat.zero_add] at hst
    have e2 : (Value.agg #[x, y]).cells = #[x, y] := rfl
    simp [Instr.storeAt, storeVar, hs, e2, go_sem]
    simpa [go_sem] using hst
  rw [hr]
  have hl : (cur.toList.take o).length = o := by simp; omega
  refine k _ _ (grown_setRow _ _ _) (setRow_heap w g _ _ e (0, 0) hg) ?_ ?_ ?_ ?_
  · simp
    omega
  · intro i h1 h2
    simp only [List.getElem?_toArray, List.append_assoc, List.cons_append, List.nil_append]
    by_cases hi : i < o
    · rw [List.getElem?_append_left (by rw [hl]; exact hi), List.getElem?_take_of_lt hi]
      simp
    · rw [List.getElem?_append_right (by rw [hl]; omega), hl]
      obtain ⟨m, rfl⟩ : ∃ m, i = o + (m + 2) := ⟨i - o - 2, by omega⟩
      have e3 : o + (m + 2) - o = m + 2 := by omega
      rw [e3]
      simp only [List.getElem?_cons_succ, List.getElem?_drop, Array.getElem?_toList]
      congr 1
      omega
  · simp only [List.getElem?_toArray, List.append_assoc, List.cons_append, List.nil_append]
    rw [List.getElem?_append_right (by rw [hl]; omega), hl]
    simp
  · simp only [List.getElem?_toArray, List.append_assoc, List.cons_append, List.nil_append]
    rw [List.getElem?_append_right (by rw [hl]; omega), hl]
    have e3 : o + 1 - o = 1 := by omega
    rw [e3]
    simp
theorem zero_sec (n : Nat) : (Builtin.zeroCells (Value.agg #[.int .i64 0, .int .i64 0]).cells n).toList.length = n * 2 ∧ ∀ v ∈ (Builtin.zeroCells (Value.agg #[.int .i64 0, .int .i64 0]).cells n).toList, v.oneCell' = true := by
  constructor
  · simp [Builtin.zeroCells, Value.cells]
  · intro v hv
    simp only [Builtin.zeroCells, Array.toList_map, List.mem_map] at hv
    obtain ⟨i, _, rfl⟩ := hv
    have : i % 2 = 0 ∨ i % 2 = 1 := by omega
    rcases this with e | e <;> simp [Value.cells, e, Value.oneCell']
def keepQ (f : Int) (q : List (Int × Int)) : List (Int × Int) := q.filter (fun p => decide (p.1 ≠ f))
theorem keepQ_take (f : Int) (q : List (Int × Int)) (j : Nat) (h : j < q.length) : keepQ f (q.take (j + 1)) = if q[j].1 = f then keepQ f (q.take j) else keepQ f (q.take j) ++ [q[j]] := by
  unfold keepQ
  rw [List.take_succ_eq_append_getElem h, List.filter_append]
  by_cases hf : q[j].1 = f
  · rw [if_pos hf]; simp [hf]
  · rw [if_neg hf]; simp [hf]
def Taking (w : World) (g cap : Nat) (f : Int) (q : List (Int × Int)) (j : Nat) : Prop :=
  ∃ cur : Array Value, w.heap[g]? = some (.cells cur 103 (0, 0)) ∧ cur.size = cap * 2 ∧ (∀ (k : Nat) (x : Value), (flat secC (keepQ f (q.take j)))[k]? = some x → cur[k]? = some x) ∧ (∀ (k : Nat) (x : Value), 2 * j ≤ k → (flat secC q)[k]? = some x → cur[k]? = some x)
theorem delete_ok {x : Nat} {f : Int} {v : Value} {q : List (Int × Int)} (hq : q.length < 2 ^ 40) (hx : w.heap[x]? = some (.cells #[.int .i64 f] 3 (0, 0))) (ho : w.ownsRow 0 103 2 v q.length (flat secC q)) (k : ∀ v' w', w'.ownsRow 0 103 2 v' (keepQ f q).length (flat secC (keepQ f q)) → Fr (fun i => v.ownBlock = some i) w w' → (∀ i, v'.ownBlock = some i → v.ownBlock = some i) → K v' w') : callM Tryd.prog 103 #[v, .func (.func 104) #[] #[.pointer (some ⟨x, 0, none⟩)]] K w := by
  apply sh_103_ok
  unfold sh_103
  refine index_ok hq hx ho (fun w1 f1 => ?_)
  have hx1 := (f1.block x (Array.getElem?_eq_some_iff.1 hx).1 (fun h => h)).trans hx
  have ho1 : w1.ownsRow 0 103 2 v q.length (flat secC q) := owns_keep ho (fun i hi => f1.block i (owns_own ho hi).1 (fun h => h))
  rcases idxOf_split f q with ⟨hi, hall⟩ | ⟨q1, p, q2, hsp, hpf, hpre, hi⟩
  · rw [hi]
    have hk : keepQ f q = q := List.filter_eq_self.2 (fun p hp => by simpa using hall p hp)
    rw [hk] at k
    repeat (any_goals (first
    | (with_reducible refine pureM_in ?_)
    | (with_reducible first|refine pureQ_in ?_|refine gdQ_conv (fun _ => ?_)|refine pickQT ?_|refine pickQF ?_|refine pickQ_pos (by first|assumption|omega) ?_|refine pickQ_neg (by first|assumption|omega) ?_|refine pickQn_pos (by first|assumption|omega) ?_|refine pickQn_neg (by first|assumption|omega) ?_) | ((with_reducible refine oQ_one ?_ ?_); exact ⟨_, rfl⟩) | (with_reducible first|refine And.intro (Eq.refl (α := World) _) ?_|refine forall_one ?_|refine oQ_nil ?_) | (with_reducible refine oQ_of ⟨_, rfl⟩ (fun W0 hW0 => by (refine oM_gen (fun Kv hK => ?_)); simp [go_sem]; (first | exact hK _ _ ⟨rfl, rfl⟩ | exact ⟨by omega, hK _ _ ⟨rfl, rfl⟩⟩)) ?_)
    | (with_reducible first|refine gdtT ?_|refine gdtF ?_|refine gdfF ?_|refine gdfT ?_|refine gdu ?_ _|refine gdt_pos (by first|assumption|omega) ?_|refine gdt_neg (by first|assumption|omega) ?_|refine gdt_split (fun hg => ?_) (fun hg => ?_)|refine gdf_pos (by first|assumption|omega) ?_|refine gdf_neg (by first|assumption|omega) ?_|refine gdf_split (fun hg => ?_) (fun hg => ?_)|refine gdtn_pos (by first|assumption|omega) ?_|refine gdtn_neg (by first|assumption|omega) ?_|refine gdtn_split (fun hg => ?_) (fun hg => ?_)|refine gdfn_pos (by first|assumption|omega) ?_|refine gdfn_neg (by first|assumption|omega) ?_|refine gdfn_split (fun hg => ?_) (fun hg => ?_)|refine gdtbn_pos (by assumption) ?_|refine gdtbn_neg (by assumption) ?_|refine gdfbn_pos (by assumption) ?_|refine gdfbn_neg (by assumption) ?_|refine gdtb_pos (by assumption) ?_|refine gdtb_neg (by assumption) ?_|refine gdtb_split (fun hg => ?_) (fun hg => ?_)|refine gdfb_pos (by assumption) ?_|refine gdfb_neg (by assumption) ?_|refine gdfb_split (fun hg => ?_) (fun hg => ?_)|refine pickT ?_|refine pickF ?_|refine pick_pos (by first|assumption|omega) ?_|refine pick_neg (by first|assumption|omega) ?_|refine pickn_pos (by first|assumption|omega) ?_|refine pickn_neg (by first|assumption|omega) ?_|refine pickbn_pos (by assumption) ?_|refine pickbn_neg (by assumption) ?_|refine pickb_pos (by assumption) ?_|refine pickb_neg (by assumption) ?_|refine condT ?_|refine condF ?_|refine cond_pos (by first|assumption|omega) ?_|refine cond_neg (by first|assumption|omega) ?_|refine condM_dec (fun hg => ?_) (fun hg => ?_)|refine condn_pos (by first|assumption|omega) ?_|refine condn_neg (by first|assumption|omega) ?_|refine condM_ndec (fun hg => ?_) (fun hg => ?_)|refine condbn_pos (by assumption) ?_|refine condbn_neg (by assumption) ?_|refine condbn_split (fun hg => ?_) (fun hg => ?_)|refine condb_pos (by assumption) ?_|refine condb_neg (by assumption) ?_|refine condM_b (fun hg => ?_) (fun hg => ?_))
    | ((with_reducible refine oM_gen (fun Kv hK => ?_)); simp [go_sem]; (try simp (disch := omega) only [wrapI64, wrapU8, wrapU32, wrapU64]); (first | refine hK _ _ ?_ | refine And.intro (by omega) (hK _ _ ?_)); clear hK; clear Kv)))
    exact k v w1 ho1 (f1.mono (fun _ _ h => h.elim)) (fun i h => h)
  · rw [hi]
    have hlen : q.length = q1.length + 1 + q2.length := by rw [hsp]; simp; omega
    obtain ⟨g, cap, cur, rfl, hg, _, hcur, hcs, hnc, hcell⟩ := owns_cells ho1 (by omega)
    have ht1 : q.take q1.length = q1 := by rw [hsp]; simp
    have hk1 : keepQ f (q.take q1.length) = q1 := by
      rw [ht1]
      exact List.filter_eq_self.2 (fun p hp => by simpa using hpre p hp)
    have hqg : q[q1.length]? = some p := by rw [hsp]; simp
    have hk2 : keepQ f (q.take (q1.length + 1)) = q1 := by
      rw [keepQ_take f q q1.length (by omega), hk1, if_pos]
      rw [List.getElem?_eq_getElem (by omega)] at hqg
      rw [Option.some.inj hqg]; exact hpf
    have hcf : ∀ (k : Nat) (x : Value), (flat secC q)[k]? = some x → cur[k]? = some x := fun k x h => by
      have := hcell k x h
      rw [cell_of_block hcur] at this
      exact this
    have hxg : x ≠ g := fun e => by rw [e, hcur] at hx1; cases hx1
    repeat (any_goals (first
    | (with_reducible refine pureM_in ?_)
    | (with_reducible first|refine pureQ_in ?_|refine gdQ_conv (fun _ => ?_)|refine pickQT ?_|refine pickQF ?_|refine pickQ_pos (by first|assumption|omega) ?_|refine pickQ_neg (by first|assumption|omega) ?_|refine pickQn_pos (by first|assumption|omega) ?_|refine pickQn_neg (by first|assumption|omega) ?_) | ((with_reducible refine oQ_one ?_ ?_); exact ⟨_, rfl⟩) | (with_reducible first|refine And.intro (Eq.refl (α := World) _) ?_|refine forall_one ?_|refine oQ_nil ?_) | (with_reducible refine oQ_of ⟨_, rfl⟩ (fun W0 hW0 => by (refine oM_gen (fun Kv hK => ?_)); simp [go_sem]; (first | exact hK _ _ ⟨rfl, rfl⟩ | exact ⟨by omega, hK _ _ ⟨rfl, rfl⟩⟩)) ?_)
    | (with_reducible first|refine gdtT ?_|refine gdtF ?_|refine gdfF ?_|refine gdfT ?_|refine gdu ?_ _|refine gdt_pos (by first|assumption|omega) ?_|refine gdt_neg (by first|assumption|omega) ?_|refine gdt_split (fun hg => ?_) (fun hg => ?_)|refine gdf_pos (by first|assumption|omega) ?_|refine gdf_neg (by first|assumption|omega) ?_|refine gdf_split (fun hg => ?_) (fun hg => ?_)|refine gdtn_pos (by first|assumption|omega) ?_|refine gdtn_neg (by first|assumption|omega) ?_|refine gdtn_split (fun hg => ?_) (fun hg => ?_)|refine gdfn_pos (by first|assumption|omega) ?_|refine gdfn_neg (by first|assumption|omega) ?_|refine gdfn_split (fun hg => ?_) (fun hg => ?_)|refine gdtbn_pos (by assumption) ?_|refine gdtbn_neg (by assumption) ?_|refine gdfbn_pos (by assumption) ?_|refine gdfbn_neg (by assumption) ?_|refine gdtb_pos (by assumption) ?_|refine gdtb_neg (by assumption) ?_|refine gdtb_split (fun hg => ?_) (fun hg => ?_)|refine gdfb_pos (by assumption) ?_|refine gdfb_neg (by assumption) ?_|refine gdfb_split (fun hg => ?_) (fun hg => ?_)|refine pickT ?_|refine pickF ?_|refine pick_pos (by first|assumption|omega) ?_|refine pick_neg (by first|assumption|omega) ?_|refine pickn_pos (by first|assumption|omega) ?_|refine pickn_neg (by first|assumption|omega) ?_|refine pickbn_pos (by assumption) ?_|refine pickbn_neg (by assumption) ?_|refine pickb_pos (by assumption) ?_|refine pickb_neg (by assumption) ?_|refine condT ?_|refine condF ?_|refine cond_pos (by first|assumption|omega) ?_|refine cond_neg (by first|assumption|omega) ?_|refine condM_dec (fun hg => ?_) (fun hg => ?_)|refine condn_pos (by first|assumption|omega) ?_|refine condn_neg (by first|assumption|omega) ?_|refine condM_ndec (fun hg => ?_) (fun hg => ?_)|refine condbn_pos (by assumption) ?_|refine condbn_neg (by assumption) ?_|refine condbn_split (fun hg => ?_) (fun hg => ?_)|refine condb_pos (by assumption) ?_|refine condb_neg (by assumption) ?_|refine condM_b (fun hg => ?_) (fun hg => ?_))
    | ((with_reducible refine oM_gen (fun Kv hK => ?_)); simp [go_sem]; (try simp (disch := omega) only [wrapI64, wrapU8, wrapU32, wrapU64]); (first | refine hK _ _ ?_ | refine And.intro (by omega) (hK _ _ ?_)); clear hK; clear Kv)))
    have T1 : Taking w1 g cap f q (q1.length + 1) := ⟨cur, hcur, hcs, fun k x h => by
      rw [hk2] at h
      refine hcf k x ?_
      rw [hsp, flat_append]
      rw [List.getElem?_append_left (by have := (List.getElem?_eq_some_iff.1 h).1; exact this)]
      exact h, fun k x _ h => hcf k x h⟩
    refine ⟨fun l w' => ∃ j : Nat, l = [.int .i64 ((keepQ f (q.take j)).length : Int), .int .i64 (j : Int)] ∧ (keepQ f (q.take j)).length + 1 ≤ j ∧ j ≤ q.length ∧ Taking w' g cap f q j ∧ Fr (fun i => i = g) w w', fun l _ => match l with | [_, .int _ n] => ((q.length : Int) - n).toNat | _ => 0, ⟨q1.length + 1, by rw [hk2]; rfl, by rw [hk2]; omega, by omega, T1, f1.mono (fun _ _ h => h.elim)⟩, ?_⟩
    rintro l u w2 ⟨j, rfl, hij, hjn, T2, f2⟩
    simp only [List.getD_cons_zero, List.getD_cons_succ]
    repeat (any_goals (first
    | (with_reducible refine pureM_in ?_)
    | (with_reducible first|refine pureQ_in ?_|refine gdQ_conv (fun _ => ?_)|refine pickQT ?_|refine pickQF ?_|refine pickQ_pos (by first|assumption|omega) ?_|refine pickQ_neg (by first|assumption|omega) ?_|refine pickQn_pos (by first|assumption|omega) ?_|refine pickQn_neg (by first|assumption|omega) ?_) | ((with_reducible refine oQ_one ?_ ?_); exact ⟨_, rfl⟩) | (with_reducible first|refine And.intro (Eq.refl (α := World) _) ?_|refine forall_one ?_|refine oQ_nil ?_) | (with_reducible refine oQ_of ⟨_, rfl⟩ (fun W0 hW0 => by (refine oM_gen (fun Kv hK => ?_)); simp [go_sem]; (first | exact hK _ _ ⟨rfl, rfl⟩ | exact ⟨by omega, hK _ _ ⟨rfl, rfl⟩⟩)) ?_)
    | (with_reducible first|refine gdtT ?_|refine gdtF ?_|refine gdfF ?_|refine gdfT ?_|refine gdu ?_ _|refine gdt_pos (by first|assumption|omega) ?_|refine gdt_neg (by first|assumption|omega) ?_|refine gdt_split (fun hg => ?_) (fun hg => ?_)|refine gdf_pos (by first|assumption|omega) ?_|refine gdf_neg (by first|assumption|omega) ?_|refine gdf_split (fun hg => ?_) (fun hg => ?_)|refine gdtn_pos (by first|assumption|omega) ?_|refine gdtn_neg (by first|assumption|omega) ?_|refine gdtn_split (fun hg => ?_) (fun hg => ?_)|refine gdfn_pos (by first|assumption|omega) ?_|refine gdfn_neg (by first|assumption|omega) ?_|refine gdfn_split (fun hg => ?_) (fun hg => ?_)|refine gdtbn_pos (by assumption) ?_|refine gdtbn_neg (by assumption) ?_|refine gdfbn_pos (by assumption) ?_|refine gdfbn_neg (by assumption) ?_|refine gdtb_pos (by assumption) ?_|refine gdtb_neg (by assumption) ?_|refine gdtb_split (fun hg => ?_) (fun hg => ?_)|refine gdfb_pos (by assumption) ?_|refine gdfb_neg (by assumption) ?_|refine gdfb_split (fun hg => ?_) (fun hg => ?_)|refine pickT ?_|refine pickF ?_|refine pick_pos (by first|assumption|omega) ?_|refine pick_neg (by first|assumption|omega) ?_|refine pickn_pos (by first|assumption|omega) ?_|refine pickn_neg (by first|assumption|omega) ?_|refine pickbn_pos (by assumption) ?_|refine pickbn_neg (by assumption) ?_|refine pickb_pos (by assumption) ?_|refine pickb_neg (by assumption) ?_|refine condT ?_|refine condF ?_|refine cond_pos (by first|assumption|omega) ?_|refine cond_neg (by first|assumption|omega) ?_|refine condM_dec (fun hg => ?_) (fun hg => ?_)|refine condn_pos (by first|assumption|omega) ?_|refine condn_neg (by first|assumption|omega) ?_|refine condM_ndec (fun hg => ?_) (fun hg => ?_)|refine condbn_pos (by assumption) ?_|refine condbn_neg (by assumption) ?_|refine condbn_split (fun hg => ?_) (fun hg => ?_)|refine condb_pos (by assumption) ?_|refine condb_neg (by assumption) ?_|refine condM_b (fun hg => ?_) (fun hg => ?_))
    | ((with_reducible refine oM_gen (fun Kv hK => ?_)); simp [go_sem]; (try simp (disch := omega) only [wrapI64, wrapU8, wrapU32, wrapU64]); (first | refine hK _ _ ?_ | refine And.intro (by omega) (hK _ _ ?_)); clear hK; clear Kv)))
    · have hlt : j < q.length := by omega
      obtain ⟨cur2, hcur2, hcs2, hlo2, hhi2⟩ := T2
      have hx2 := (f2.block x (Array.getElem?_eq_some_iff.1 hx).1 (fun h => hxg h)).trans hx
      have e0 : w2.cell? ⟨g, j * 2, none⟩ = some (.int .i64 q[j].1) := by
        rw [cell_of_block hcur2]
        exact hhi2 _ _ (by omega) (by have := flat_at secC_len q j 0 (List.getElem?_eq_getElem hlt) (by omega); simpa [secC] using this)
      have e1 : w2.cell? ⟨g, j * 2 + 1, none⟩ = some (.int .i64 q[j].2) := by
        rw [cell_of_block hcur2]
        exact hhi2 _ _ (by omega) (by have := flat_at secC_len q j 1 (List.getElem?_eq_getElem hlt) (by omega); simpa [secC] using this)
      have hix := idxSec (c := cap) (g := g) hlt w2
      refine ⟨fun l w' => l = [.int .i64 ((keepQ f (q.take (j + 1))).length : Int)] ∧ (keepQ f (q.take (j + 1))).length + 1 ≤ j + 1 ∧ Taking w' g cap f q (j + 1) ∧ Fr (fun i => i = g) w w', ?_, ?_⟩
      · repeat (any_goals (first
        | (with_reducible refine pureM_in ?_)
        | (with_reducible first|refine pureQ_in ?_|refine gdQ_conv (fun _ => ?_)|refine pickQT ?_|refine pickQF ?_|refine pickQ_pos (by first|assumption|omega) ?_|refine pickQ_neg (by first|assumption|omega) ?_|refine pickQn_pos (by first|assumption|omega) ?_|refine pickQn_neg (by first|assumption|omega) ?_) | ((with_reducible refine oQ_one ?_ ?_); exact ⟨_, rfl⟩) | (with_reducible first|refine And.intro (Eq.refl (α := World) _) ?_|refine forall_one ?_|refine oQ_nil ?_) | (with_reducible refine oQ_of ⟨_, rfl⟩ (fun W0 hW0 => by (refine oM_gen (fun Kv hK => ?_)); simp [go_sem]; (first | exact hK _ _ ⟨rfl, rfl⟩ | exact ⟨by omega, hK _ _ ⟨rfl, rfl⟩⟩)) ?_)
        | (with_reducible first|refine gdtT ?_|refine gdtF ?_|refine gdfF ?_|refine gdfT ?_|refine gdu ?_ _|refine gdt_pos (by first|assumption|omega) ?_|refine gdt_neg (by first|assumption|omega) ?_|refine gdt_split (fun hg => ?_) (fun hg => ?_)|refine gdf_pos (by first|assumption|omega) ?_|refine gdf_neg (by first|assumption|omega) ?_|refine gdf_split (fun hg => ?_) (fun hg => ?_)|refine gdtn_pos (by first|assumption|omega) ?_|refine gdtn_neg (by first|assumption|omega) ?_|refine gdtn_split (fun hg => ?_) (fun hg => ?_)|refine gdfn_pos (by first|assumption|omega) ?_|refine gdfn_neg (by first|assumption|omega) ?_|refine gdfn_split (fun hg => ?_) (fun hg => ?_)|refine gdtbn_pos (by assumption) ?_|refine gdtbn_neg (by assumption) ?_|refine gdfbn_pos (by assumption) ?_|refine gdfbn_neg (by assumption) ?_|refine gdtb_pos (by assumption) ?_|refine gdtb_neg (by assumption) ?_|refine gdtb_split (fun hg => ?_) (fun hg => ?_)|refine gdfb_pos (by assumption) ?_|refine gdfb_neg (by assumption) ?_|refine gdfb_split (fun hg => ?_) (fun hg => ?_)|refine pickT ?_|refine pickF ?_|refine pick_pos (by first|assumption|omega) ?_|refine pick_neg (by first|assumption|omega) ?_|refine pickn_pos (by first|assumption|omega) ?_|refine pickn_neg (by first|assumption|omega) ?_|refine pickbn_pos (by assumption) ?_|refine pickbn_neg (by assumption) ?_|refine pickb_pos (by assumption) ?_|refine pickb_neg (by assumption) ?_|refine condT ?_|refine condF ?_|refine cond_pos (by first|assumption|omega) ?_|refine cond_neg (by first|assumption|omega) ?_|refine condM_dec (fun hg => ?_) (fun hg => ?_)|refine condn_pos (by first|assumption|omega) ?_|refine condn_neg (by first|assumption|omega) ?_|refine condM_ndec (fun hg => ?_) (fun hg => ?_)|refine condbn_pos (by assumption) ?_|refine condbn_neg (by assumption) ?_|refine condbn_split (fun hg => ?_) (fun hg => ?_)|refine condb_pos (by assumption) ?_|refine condb_neg (by assumption) ?_|refine condM_b (fun hg => ?_) (fun hg => ?_))
        | ((with_reducible refine oM_gen (fun Kv hK => ?_)); simp [go_sem, hix, e0, e1]; (try simp (disch := omega) only [wrapI64, wrapU8, wrapU32, wrapU64]); (first | refine hK _ _ ?_ | refine And.intro (by omega) (hK _ _ ?_)); clear hK; clear Kv)))
        have pf : Fr (fun _ => False) w2 (w2.alloc (.cells #[.int .i64 q[j].1, .int .i64 q[j].2] 103 (0, 0))) := (Fr.refl _ _).alloc _
        have p0 := heap_alloc_new w2 (.cells #[.int .i64 q[j].1, .int .i64 q[j].2] 103 (0, 0))
        have pz := alloc_size w2 (.cells #[.int .i64 q[j].1, .int .i64 q[j].2] 103 (0, 0))
        generalize w2.alloc (.cells #[.int .i64 q[j].1, .int .i64 q[j].2] 103 (0, 0)) = w3 at *
        have hx3 := (pf.block x (Array.getElem?_eq_some_iff.1 hx2).1 (fun h => h)).trans hx2
        refine oM_callv1 isBody56 (test1_ok (f := f) q[j] hx3 (fun w4 f4 => ?_))
        have hg2 := (Array.getElem?_eq_some_iff.1 hcur2).1
        have f24 := pf.trans f4 (fun _ h => h.elim)
        have hcur4 := (f24.block g hg2 (fun h => h)).trans hcur2
        have p4 := (f4.block w2.heap.size (by omega) (fun h => h)).trans p0
        have p40 := cell_of_block p4 0
        have p41 := cell_of_block p4 1
        simp at p40 p41
        have fr4 : Fr (fun i => i = g) w w4 := f2.trans f24 (fun _ h => h.elim)
        have hkt := keepQ_take f q j hlt
        have hix4 := idxSec (c := cap) (g := g) (n := q.length) (k := (keepQ f (q.take j)).length) (by omega) w4
        obtain ⟨i, hii⟩ : ∃ i, i = (keepQ f (q.take j)).length := ⟨_, rfl⟩
        rw [← hii] at hix4 hij ⊢
        have z0 := cell_of_block hcur4 (i * 2)
        have z1 := frozen_of_block hcur4 (i * 2)
        have z3 := frozen_of_block hcur4 (i * 2 + 1)
        have s0 : (cur2[i * 2]?).isSome = true := by simp; omega
        have s1 : (cur2[i * 2 + 1]?).isSome = true := by simp; omega
        have T4 : (∀ (k : Nat) (x : Value), 2 * (j + 1) ≤ k → (flat secC q)[k]? = some x → cur2[k]? = some x) := fun k x h1 h2 => hhi2 k x (by omega) h2
        repeat (any_goals (first
        | (with_reducible refine pureM_in ?_)
        | (with_reducible first|refine pureQ_in ?_|refine gdQ_conv (fun _ => ?_)|refine pickQT ?_|refine pickQF ?_|refine pickQ_pos (by first|assumption|omega) ?_|refine pickQ_neg (by first|assumption|omega) ?_|refine pickQn_pos (by first|assumption|omega) ?_|refine pickQn_neg (by first|assumption|omega) ?_) | ((with_reducible refine oQ_one ?_ ?_); exact ⟨_, rfl⟩) | (with_reducible first|refine And.intro (Eq.refl (α := World) _) ?_|refine forall_one ?_|refine oQ_nil ?_) | (with_reducible refine oQ_of ⟨_, rfl⟩ (fun W0 hW0 => by (refine oM_gen (fun Kv hK => ?_)); simp [go_sem]; (first | exact hK _ _ ⟨rfl, rfl⟩ | exact ⟨by omega, hK _ _ ⟨rfl, rfl⟩⟩)) ?_)
        | (with_reducible first|refine gdtT ?_|refine gdtF ?_|refine gdfF ?_|refine gdfT ?_|refine gdu ?_ _|refine gdt_pos (by first|assumption|omega) ?_|refine gdt_neg (by first|assumption|omega) ?_|refine gdt_split (fun hg => ?_) (fun hg => ?_)|refine gdf_pos (by first|assumption|omega) ?_|refine gdf_neg (by first|assumption|omega) ?_|refine gdf_split (fun hg => ?_) (fun hg => ?_)|refine gdtn_pos (by first|assumption|omega) ?_|refine gdtn_neg (by first|assumption|omega) ?_|refine gdtn_split (fun hg => ?_) (fun hg => ?_)|refine gdfn_pos (by first|assumption|omega) ?_|refine gdfn_neg (by first|assumption|omega) ?_|refine gdfn_split (fun hg => ?_) (fun hg => ?_)|refine gdtbn_pos (by assumption) ?_|refine gdtbn_neg (by assumption) ?_|refine gdfbn_pos (by assumption) ?_|refine gdfbn_neg (by assumption) ?_|refine gdtb_pos (by assumption) ?_|refine gdtb_neg (by assumption) ?_|refine gdtb_split (fun hg => ?_) (fun hg => ?_)|refine gdfb_pos (by assumption) ?_|refine gdfb_neg (by assumption) ?_|refine gdfb_split (fun hg => ?_) (fun hg => ?_)|refine pickT ?_|refine pickF ?_|refine pick_pos (by first|assumption|omega) ?_|refine pick_neg (by first|assumption|omega) ?_|refine pickn_pos (by first|assumption|omega) ?_|refine pickn_neg (by first|assumption|omega) ?_|refine pickbn_pos (by assumption) ?_|refine pickbn_neg (by assumption) ?_|refine pickb_pos (by assumption) ?_|refine pickb_neg (by assumption) ?_|refine condT ?_|refine condF ?_|refine cond_pos (by first|assumption|omega) ?_|refine cond_neg (by first|assumption|omega) ?_|refine condM_dec (fun hg => ?_) (fun hg => ?_)|refine condn_pos (by first|assumption|omega) ?_|refine condn_neg (by first|assumption|omega) ?_|refine condM_ndec (fun hg => ?_) (fun hg => ?_)|refine condbn_pos (by assumption) ?_|refine condbn_neg (by assumption) ?_|refine condbn_split (fun hg => ?_) (fun hg => ?_)|refine condb_pos (by assumption) ?_|refine condb_neg (by assumption) ?_|refine condM_b (fun hg => ?_) (fun hg => ?_))
        | ((with_reducible refine oM_gen (fun Kv hK => ?_)); simp [go_sem, p40, p41, hix4]; (try simp (disch := omega) only [wrapI64, wrapU8, wrapU32, wrapU64]); (first | refine hK _ _ ?_ | refine And.intro (by omega) (hK _ _ ?_)); clear hK; clear Kv)))
        · have hpf' : q[j].1 = f := by assumption
          rw [if_pos hpf'] at hkt
          refine ⟨by rw [hkt, hii], by rw [hkt]; omega, ⟨cur2, hcur4, hcs2, by rw [hkt]; exact hlo2, T4⟩, fr4⟩
        · have hpf' : ¬ q[j].1 = f := by assumption
          rw [if_neg hpf'] at hkt
          refine store2_at (fun w => by kernel_rfl) rfl rfl hcur4 (by omega) (fun w5 cur5 hg5 hcur5 hs5 hne5 ha5 hb5 => ?_)
          repeat (any_goals (first
          | (with_reducible refine pureM_in ?_)
          | (with_reducible first|refine pureQ_in ?_|refine gdQ_conv (fun _ => ?_)|refine pickQT ?_|refine pickQF ?_|refine pickQ_pos (by first|assumption|omega) ?_|refine pickQ_neg (by first|assumption|omega) ?_|refine pickQn_pos (by first|assumption|omega) ?_|refine pickQn_neg (by first|assumption|omega) ?_) | ((with_reducible refine oQ_one ?_ ?_); exact ⟨_, rfl⟩) | (with_reducible first|refine And.intro (Eq.refl (α := World) _) ?_|refine forall_one ?_|refine oQ_nil ?_) | (with_reducible refine oQ_of ⟨_, rfl⟩ (fun W0 hW0 => by (refine oM_gen (fun Kv hK => ?_)); simp [go_sem]; (first | exact hK _ _ ⟨rfl, rfl⟩ | exact ⟨by omega, hK _ _ ⟨rfl, rfl⟩⟩)) ?_)
          | (with_reducible first|refine gdtT ?_|refine gdtF ?_|refine gdfF ?_|refine gdfT ?_|refine gdu ?_ _|refine gdt_pos (by first|assumption|omega) ?_|refine gdt_neg (by first|assumption|omega) ?_|refine gdt_split (fun hg => ?_) (fun hg => ?_)|refine gdf_pos (by first|assumption|omega) ?_|refine gdf_neg (by first|assumption|omega) ?_|refine gdf_split (fun hg => ?_) (fun hg => ?_)|refine gdtn_pos (by first|assumption|omega) ?_|refine gdtn_neg (by first|assumption|omega) ?_|refine gdtn_split (fun hg => ?_) (fun hg => ?_)|refine gdfn_pos (by first|assumption|omega) ?_|refine gdfn_neg (by first|assumption|omega) ?_|refine gdfn_split (fun hg => ?_) (fun hg => ?_)|refine gdtbn_pos (by assumption) ?_|refine gdtbn_neg (by assumption) ?_|refine gdfbn_pos (by assumption) ?_|refine gdfbn_neg (by assumption) ?_|refine gdtb_pos (by assumption) ?_|refine gdtb_neg (by assumption) ?_|refine gdtb_split (fun hg => ?_) (fun hg => ?_)|refine gdfb_pos (by assumption) ?_|refine gdfb_neg (by assumption) ?_|refine gdfb_split (fun hg => ?_) (fun hg => ?_)|refine pickT ?_|refine pickF ?_|refine pick_pos (by first|assumption|omega) ?_|refine pick_neg (by first|assumption|omega) ?_|refine pickn_pos (by first|assumption|omega) ?_|refine pickn_neg (by first|assumption|omega) ?_|refine pickbn_pos (by assumption) ?_|refine pickbn_neg (by assumption) ?_|refine pickb_pos (by assumption) ?_|refine pickb_neg (by assumption) ?_|refine condT ?_|refine condF ?_|refine cond_pos (by first|assumption|omega) ?_|refine cond_neg (by first|assumption|omega) ?_|refine condM_dec (fun hg => ?_) (fun hg => ?_)|refine condn_pos (by first|assumption|omega) ?_|refine condn_neg (by first|assumption|omega) ?_|refine condM_ndec (fun hg => ?_) (fun hg => ?_)|refine condbn_pos (by assumption) ?_|refine condbn_neg (by assumption) ?_|refine condbn_split (fun hg => ?_) (fun hg => ?_)|refine condb_pos (by assumption) ?_|refine condb_neg (by assumption) ?_|refine condM_b (fun hg => ?_) (fun hg => ?_))
          | ((with_reducible refine oM_gen (fun Kv hK => ?_)); simp [go_sem]; (try simp (disch := omega) only [wrapI64, wrapU8, wrapU32, wrapU64]); (first | refine hK _ _ ?_ | refine And.intro (by omega) (hK _ _ ?_)); clear hK; clear Kv)))
          have hfl := flat_length secC_len (keepQ f (q.take j))
          refine ⟨by rw [hkt, List.length_append, ← hii]; rfl, by rw [hkt, List.length_append, ← hii]; simp; omega, ⟨cur5, hcur5, by rw [hs5, hcs2], ?_, ?_⟩, fr4.by hg5 (fun i hi => by cases hi; exact .inl rfl)⟩
          · intro k x hk
            rw [hkt, flat_snoc] at hk
            by_cases hki : k < i * 2
            · rw [List.getElem?_append_left (by rw [hfl, ← hii]; exact hki)] at hk
              rw [hne5 k (by omega) (by omega)]
              exact hlo2 k x hk
            · rw [List.getElem?_append_right (by rw [hfl, ← hii]; omega), hfl, ← hii] at hk
              have hk2 : k - i * 2 < 2 := by have := (List.getElem?_eq_some_iff.1 hk).1; exact this
              obtain ⟨m, rfl⟩ : ∃ m, k = i * 2 + m := ⟨k - i * 2, by omega⟩
              have e3 : i * 2 + m - i * 2 = m := by omega
              rw [e3] at hk hk2
              match m, hk2, hk with
              | 0, _, hk => rw [Nat.add_zero, ha5]; exact hk
              | 1, _, hk => rw [hb5]; exact hk
          · intro k x h1 h2
            rw [hne5 k (by omega) (by omega)]
            exact T4 k x h1 h2
      · rintro l u w3 ⟨rfl, hij3, T3, f3⟩
        simp only [List.getD_cons_zero]
        repeat (any_goals (first
        | (with_reducible refine pureM_in ?_)
        | (with_reducible first|refine pureQ_in ?_|refine gdQ_conv (fun _ => ?_)|refine pickQT ?_|refine pickQF ?_|refine pickQ_pos (by first|assumption|omega) ?_|refine pickQ_neg (by first|assumption|omega) ?_|refine pickQn_pos (by first|assumption|omega) ?_|refine pickQn_neg (by first|assumption|omega) ?_) | ((with_reducible refine oQ_one ?_ ?_); exact ⟨_, rfl⟩) | (with_reducible first|refine And.intro (Eq.refl (α := World) _) ?_|refine forall_one ?_|refine oQ_nil ?_) | (with_reducible refine oQ_of ⟨_, rfl⟩ (fun W0 hW0 => by (refine oM_gen (fun Kv hK => ?_)); simp [go_sem]; (first | exact hK _ _ ⟨rfl, rfl⟩ | exact ⟨by omega, hK _ _ ⟨rfl, rfl⟩⟩)) ?_)
        | (with_reducible first|refine gdtT ?_|refine gdtF ?_|refine gdfF ?_|refine gdfT ?_|refine gdu ?_ _|refine gdt_pos (by first|assumption|omega) ?_|refine gdt_neg (by first|assumption|omega) ?_|refine gdt_split (fun hg => ?_) (fun hg => ?_)|refine gdf_pos (by first|assumption|omega) ?_|refine gdf_neg (by first|assumption|omega) ?_|refine gdf_split (fun hg => ?_) (fun hg => ?_)|refine gdtn_pos (by first|assumption|omega) ?_|refine gdtn_neg (by first|assumption|omega) ?_|refine gdtn_split (fun hg => ?_) (fun hg => ?_)|refine gdfn_pos (by first|assumption|omega) ?_|refine gdfn_neg (by first|assumption|omega) ?_|refine gdfn_split (fun hg => ?_) (fun hg => ?_)|refine gdtbn_pos (by assumption) ?_|refine gdtbn_neg (by assumption) ?_|refine gdfbn_pos (by assumption) ?_|refine gdfbn_neg (by assumption) ?_|refine gdtb_pos (by assumption) ?_|refine gdtb_neg (by assumption) ?_|refine gdtb_split (fun hg => ?_) (fun hg => ?_)|refine gdfb_pos (by assumption) ?_|refine gdfb_neg (by assumption) ?_|refine gdfb_split (fun hg => ?_) (fun hg => ?_)|refine pickT ?_|refine pickF ?_|refine pick_pos (by first|assumption|omega) ?_|refine pick_neg (by first|assumption|omega) ?_|refine pickn_pos (by first|assumption|omega) ?_|refine pickn_neg (by first|assumption|omega) ?_|refine pickbn_pos (by assumption) ?_|refine pickbn_neg (by assumption) ?_|refine pickb_pos (by assumption) ?_|refine pickb_neg (by assumption) ?_|refine condT ?_|refine condF ?_|refine cond_pos (by first|assumption|omega) ?_|refine cond_neg (by first|assumption|omega) ?_|refine condM_dec (fun hg => ?_) (fun hg => ?_)|refine condn_pos (by first|assumption|omega) ?_|refine condn_neg (by first|assumption|omega) ?_|refine condM_ndec (fun hg => ?_) (fun hg => ?_)|refine condbn_pos (by assumption) ?_|refine condbn_neg (by assumption) ?_|refine condbn_split (fun hg => ?_) (fun hg => ?_)|refine condb_pos (by assumption) ?_|refine condb_neg (by assumption) ?_|refine condM_b (fun hg => ?_) (fun hg => ?_))
        | ((with_reducible refine oM_gen (fun Kv hK => ?_)); simp [go_sem]; (try simp (disch := omega) only [wrapI64, wrapU8, wrapU32, wrapU64]); (first | refine hK _ _ ?_ | refine And.intro (by omega) (hK _ _ ?_)); clear hK; clear Kv)))
        refine ⟨⟨j + 1, rfl, hij3, by omega, T3, f3⟩, ?_⟩
        show ((q.length : Int) - ((j : Int) + 1)).toNat < _
        omega
    · have hjq : j = q.length := by omega
      subst hjq
      obtain ⟨cur2, hcur2, hcs2, hlo2, hhi2⟩ := T2
      have htk : q.take q.length = q := List.take_of_length_le (Nat.le_refl _)
      rw [htk] at hij hlo2 ⊢
      obtain ⟨hz1, hz2⟩ := zero_sec (q.length - (keepQ f q).length)
      refine sliceFrom_at (sz := 2) (by kernel_rfl) (fun w => by kernel_rfl) _ (by omega) (by omega) ?_
      rw [Nat.zero_add]
      refine clear_at (by kernel_rfl) (z := .agg #[.int .i64 0, .int .i64 0]) (fun w => by kernel_rfl) (by omega) rfl hz2 hcur2 (by rw [hz1]; omega) (fun w3 cur3 hg3 hcur3 hs3 hlo3 => ?_)
      refine sliceTo_at (sz := 2) (by kernel_rfl) (fun w => by kernel_rfl) _ (by omega) ?_
      have f3 : Fr (fun i => i = g) w w3 := f2.by hg3 (fun i hi => by cases hi; exact .inl rfl)
      have hfl := flat_length secC_len (keepQ f q)
      refine k _ w3 ⟨hfl, .inr ⟨g, cap, cur3, rfl, Nat.zero_le _, hcur3, by omega, ?_, by rw [hs3, hcs2], ?_⟩⟩ (f3.mono (fun i _ hi => by rw [hi]; rfl)) (fun i hi => hi)
      · rcases ho.2 with ⟨h1, _⟩ | ⟨g', cap', cur', h1, _, _, _, hm, _⟩
        · cases h1
        · cases h1; exact hm
      · apply List.ext_getElem?
        intro i
        by_cases hi : i < (keepQ f q).length * 2
        · rw [List.getElem?_take_of_lt hi]
          have hx' : (flat secC (keepQ f q))[i]? = some ((flat secC (keepQ f q))[i]'(by rw [hfl]; exact hi)) := List.getElem?_eq_getElem _
          rw [hx', Array.getElem?_toList, hlo3 i hi]
          exact hlo2 i _ hx'
        · rw [List.getElem?_eq_none (by simp; omega), List.getElem?_eq_none (by rw [hfl]; omega)]
end
end Go.Proofs
namespace Go.Sh
open Go Go.RowKit
theorem nodup_sub_len {κ : Type} [DecidableEq κ] (d ks : List κ) (hn : d.Nodup) (hs : ∀ x ∈ d, x ∈ ks) : d.length ≤ ks.length := by
  induction d generalizing ks with
  | nil => simp
  | cons a d ih =>
    rw [List.nodup_cons] at hn
    have ha := hs a (List.mem_cons_self ..)
    have := ih (ks.erase a) hn.2 (fun x hx => by
      have hne : x ≠ a := fun e => hn.1 (by rw [← e]; exact hx)
      exact (List.mem_erase_of_ne hne).2 (hs x (List.mem_cons_of_mem _ hx)))
    rw [List.length_erase_of_mem ha] at this
    have := List.length_pos_of_mem ha
    simp only [List.length_cons]
    omega
@[go_sem] theorem oM_extract1 {P : Program} {K : Value → World → Prop} {w : World} (T : TypeId) (a : Value) : oM P (.extract (.tmp 0) 0) T [.tuple #[a]] K w = K a w := oM_of_run rfl
section
variable {w : World} {κ : Type} [DecidableEq κ] {mk : κ → Value}
theorem Ranged.seen {it b : Nat} {l : List (κ × Value)} {ks done : List κ} (h : Ranged mk w it b l ks done) : (w.iterSeen it).size = done.length := by
  obtain ⟨es, clock, seen, f, h1, h2, h3, h4, h5, h6, h7, h8, _⟩ := h
  unfold World.iterSeen
  rw [h2]
  have := congrArg List.length h8
  simpa using this
theorem Ranged.sub {it b : Nat} {l : List (κ × Value)} {ks done : List κ} (h : Ranged mk w it b l ks done) : ∀ a ∈ done, a ∈ ks := by
  obtain ⟨es, clock, seen, f, h1, h2, h3, h4, h5, h6, h7, h8, h9, h10⟩ := h
  exact h10
end
end Go.Sh
namespace Go.Proofs
open Go Go.Sh Go.RowKit DkSpec
set_option linter.unusedSimpArgs false
set_option maxRecDepth 10000
attribute [local go_sem] oM_indexAddr
section
variable {w : World} {b : Nat} {A : Ab} {h : Dk} {K : Value → World → Prop}
theorem oM_callv2 {P : Program} {f : FuncId} {fs cs : Array Value} {T : TypeId} {ts : Array TypeId} {x y : Value} (hb : isBody P f = true) (h : callM P f (fs ++ #[x, y] ++ cs) K w) : oM P (.call { callee := .value (.tmp 0), args := #[.tmp 1, .tmp 2], argTypes := ts }) T [.func (.func f) fs cs, x, y] K w :=
  oM_callv _ hb (by simp [xop, execOp, evalL, evE, resolve, Deferred.ofValue, invoke]) h
theorem deleteMap_ok {x sm : Nat} {f : Int} {ls : List ((Int × Int) × Value)} (hx : w.heap[x]? = some (.cells #[.int .i64 f] 3 (0, 0))) (m : MapIs secV w sm ls) (k : ∀ w', MapIs secV w' sm (ls.filter (fun y => decide (y.1.1 ≠ f))) → Fr (fun i => i = sm) w w' → K (.tuple #[]) w') : callM Tryd.prog 105 #[.map (some sm), .func (.func 106) #[] #[.pointer (some ⟨x, 0, none⟩)]] K w := by
  apply sh_105_ok
  unfold sh_105
  obtain ⟨o, hr, R⟩ := run_range (P := Tryd.prog) (t := 89) (kt := 103) (et := 4) (by kernel_rfl) m
  have f0 : Fr (fun i => i = sm) w (w.alloc o) := (Fr.refl _ _).alloc _
  repeat (any_goals (first
  | (with_reducible refine pureM_in ?_)
  | (with_reducible first|refine pureQ_in ?_|refine gdQ_conv (fun _ => ?_)|refine pickQT ?_|refine pickQF ?_|refine pickQ_pos (by first|assumption|omega) ?_|refine pickQ_neg (by first|assumption|omega) ?_|refine pickQn_pos (by first|assumption|omega) ?_|refine pickQn_neg (by first|assumption|omega) ?_) | ((with_reducible refine oQ_one ?_ ?_); exact ⟨_, rfl⟩) | (with_reducible first|refine And.intro (Eq.refl (α := World) _) ?_|refine forall_one ?_|refine oQ_nil ?_) | (with_reducible refine oQ_of ⟨_, rfl⟩ (fun W0 hW0 => by (refine oM_gen (fun Kv hK => ?_)); simp [go_sem]; (first | exact hK _ _ ⟨rfl, rfl⟩ | exact ⟨by omega, hK _ _ ⟨rfl, rfl⟩⟩)) ?_)
  | (with_reducible first|refine gdtT ?_|refine gdtF ?_|refine gdfF ?_|refine gdfT ?_|refine gdu ?_ _|refine gdt_pos (by first|assumption|omega) ?_|refine gdt_neg (by first|assumption|omega) ?_|refine gdt_split (fun hg => ?_) (fun hg => ?_)|refine gdf_pos (by first|assumption|omega) ?_|refine gdf_neg (by first|assumption|omega) ?_|refine gdf_split (fun hg => ?_) (fun hg => ?_)|refine gdtn_pos (by first|assumption|omega) ?_|refine gdtn_neg (by first|assumption|omega) ?_|refine gdtn_split (fun hg => ?_) (fun hg => ?_)|refine gdfn_pos (by first|assumption|omega) ?_|refine gdfn_neg (by first|assumption|omega) ?_|refine gdfn_split (fun hg => ?_) (fun hg => ?_)|refine gdtbn_pos (by assumption) ?_|refine gdtbn_neg (by assumption) ?_|refine gdfbn_pos (by assumption) ?_|refine gdfbn_neg (by assumption) ?_|refine gdtb_pos (by assumption) ?_|refine gdtb_neg (by assumption) ?_|refine gdtb_split (fun hg => ?_) (fun hg => ?_)|refine gdfb_pos (by assumption) ?_|refine gdfb_neg (by assumption) ?_|refine gdfb_split (fun hg => ?_) (fun hg => ?_)|refine pickT ?_|refine pickF ?_|refine pick_pos (by first|assumption|omega) ?_|refine pick_neg (by first|assumption|omega) ?_|refine pickn_pos (by first|assumption|omega) ?_|refine pickn_neg (by first|assumption|omega) ?_|refine pickbn_pos (by assumption) ?_|refine pickbn_neg (by assumption) ?_|refine pickb_pos (by assumption) ?_|refine pickb_neg (by assumption) ?_|refine condT ?_|refine condF ?_|refine cond_pos (by first|assumption|omega) ?_|refine cond_neg (by first|assumption|omega) ?_|refine condM_dec (fun hg => ?_) (fun hg => ?_)|refine condn_pos (by first|assumption|omega) ?_|refine condn_neg (by first|assumption|omega) ?_|refine condM_ndec (fun hg => ?_) (fun hg => ?_)|refine condbn_pos (by assumption) ?_|refine condbn_neg (by assumption) ?_|refine condbn_split (fun hg => ?_) (fun hg => ?_)|refine condb_pos (by assumption) ?_|refine condb_neg (by assumption) ?_|refine condM_b (fun hg => ?_) (fun hg => ?_))
  | ((with_reducible refine oM_gen (fun Kv hK => ?_)); simp [go_sem, hr]; (try simp (disch := omega) only [wrapI64, wrapU8, wrapU32, wrapU64]); (first | refine hK _ _ ?_ | refine And.intro (by omega) (hK _ _ ?_)); clear hK; clear Kv)))
  generalize w.alloc o = w0 at *
  have hsm : sm < w.heap.size := m.lt
  refine ⟨fun l w' => ∃ u done, l = [u] ∧ done.Nodup ∧ Ranged secV w' w.heap.size sm (ls.filter (fun y => decide (¬ (y.1 ∈ done ∧ y.1.1 = f)))) (ls.map (·.1)) done ∧ Fr (fun i => i = sm) w w', fun _ w' => (ls.map (·.1)).length + 1 - (w'.iterSeen w.heap.size).size, ⟨_, [], rfl, List.nodup_nil, by
    have e : ls.filter (fun y => decide (¬ (y.1 ∈ ([] : List (Int × Int)) ∧ y.1.1 = f))) = ls := List.filter_eq_self.2 (fun y _ => by simp)
    rw [e]; exact R, f0⟩, ?_⟩
  rintro l u w1 ⟨u1, done, rfl, hnd, R1, f1⟩
  have hlen := nodup_sub_len done _ hnd R1.sub
  have hseen := R1.seen
  rcases run_next (P := Tryd.prog) (ty := 0) R1 with ⟨hall, hn⟩ | ⟨y, hy, hyd, w2, hn, R2, g2, z2⟩
  · repeat (any_goals (first
    | (with_reducible refine pureM_in ?_)
    | (with_reducible first|refine pureQ_in ?_|refine gdQ_conv (fun _ => ?_)|refine pickQT ?_|refine pickQF ?_|refine pickQ_pos (by first|assumption|omega) ?_|refine pickQ_neg (by first|assumption|omega) ?_|refine pickQn_pos (by first|assumption|omega) ?_|refine pickQn_neg (by first|assumption|omega) ?_) | ((with_reducible refine oQ_one ?_ ?_); exact ⟨_, rfl⟩) | (with_reducible first|refine And.intro (Eq.refl (α := World) _) ?_|refine forall_one ?_|refine oQ_nil ?_) | (with_reducible refine oQ_of ⟨_, rfl⟩ (fun W0 hW0 => by (refine oM_gen (fun Kv hK => ?_)); simp [go_sem]; (first | exact hK _ _ ⟨rfl, rfl⟩ | exact ⟨by omega, hK _ _ ⟨rfl, rfl⟩⟩)) ?_)
    | (with_reducible first|refine gdtT ?_|refine gdtF ?_|refine gdfF ?_|refine gdfT ?_|refine gdu ?_ _|refine gdt_pos (by first|assumption|omega) ?_|refine gdt_neg (by first|assumption|omega) ?_|refine gdt_split (fun hg => ?_) (fun hg => ?_)|refine gdf_pos (by first|assumption|omega) ?_|refine gdf_neg (by first|assumption|omega) ?_|refine gdf_split (fun hg => ?_) (fun hg => ?_)|refine gdtn_pos (by first|assumption|omega) ?_|refine gdtn_neg (by first|assumption|omega) ?_|refine gdtn_split (fun hg => ?_) (fun hg => ?_)|refine gdfn_pos (by first|assumption|omega) ?_|refine gdfn_neg (by first|assumption|omega) ?_|refine gdfn_split (fun hg => ?_) (fun hg => ?_)|refine gdtbn_pos (by assumption) ?_|refine gdtbn_neg (by assumption) ?_|refine gdfbn_pos (by assumption) ?_|refine gdfbn_neg (by assumption) ?_|refine gdtb_pos (by assumption) ?_|refine gdtb_neg (by assumption) ?_|refine gdtb_split (fun hg => ?_) (fun hg => ?_)|refine gdfb_pos (by assumption) ?_|refine gdfb_neg (by assumption) ?_|refine gdfb_split (fun hg => ?_) (fun hg => ?_)|refine pickT ?_|refine pickF ?_|refine pick_pos (by first|assumption|omega) ?_|refine pick_neg (by first|assumption|omega) ?_|refine pickn_pos (by first|assumption|omega) ?_|refine pickn_neg (by first|assumption|omega) ?_|refine pickbn_pos (by assumption) ?_|refine pickbn_neg (by assumption) ?_|refine pickb_pos (by assumption) ?_|refine pickb_neg (by assumption) ?_|refine condT ?_|refine condF ?_|refine cond_pos (by first|assumption|omega) ?_|refine cond_neg (by first|assumption|omega) ?_|refine condM_dec (fun hg => ?_) (fun hg => ?_)|refine condn_pos (by first|assumption|omega) ?_|refine condn_neg (by first|assumption|omega) ?_|refine condM_ndec (fun hg => ?_) (fun hg => ?_)|refine condbn_pos (by assumption) ?_|refine condbn_neg (by assumption) ?_|refine condbn_split (fun hg => ?_) (fun hg => ?_)|refine condb_pos (by assumption) ?_|refine condb_neg (by assumption) ?_|refine condM_b (fun hg => ?_) (fun hg => ?_))
    | ((with_reducible refine oM_gen (fun Kv hK => ?_)); simp [go_sem, hn]; (try simp (disch := omega) only [wrapI64, wrapU8, wrapU32, wrapU64]); (first | refine hK _ _ ?_ | refine And.intro (by omega) (hK _ _ ?_)); clear hK; clear Kv)))
    refine k w1 ?_ f1
    have := R1.map
    have e : ls.filter (fun y => decide (¬ (y.1 ∈ done ∧ y.1.1 = f))) = ls.filter (fun y => decide (y.1.1 ≠ f)) := by
      apply List.filter_congr
      intro y hy
      by_cases hf : y.1.1 = f
      · by_cases hd : y.1 ∈ done
        · simp [hf, hd]
        · have hy' : y ∈ ls.filter (fun y => decide (¬ (y.1 ∈ done ∧ y.1.1 = f))) := List.mem_filter.2 ⟨hy, by simp [hd]⟩
          exact absurd (hall y hy') hd
      · simp [hf]
    rw [e] at this
    exact this
  · have he := run_entry (P := Tryd.prog) R2 hy
    have f2 : Fr (fun i => i = sm) w w2 := f1.by g2 (fun i hi => by cases hi; exact .inr (Nat.le_refl _))
    simp only [secV] at hn he
    repeat (any_goals (first
    | (with_reducible refine pureM_in ?_)
    | (with_reducible first|refine pureQ_in ?_|refine gdQ_conv (fun _ => ?_)|refine pickQT ?_|refine pickQF ?_|refine pickQ_pos (by first|assumption|omega) ?_|refine pickQ_neg (by first|assumption|omega) ?_|refine pickQn_pos (by first|assumption|omega) ?_|refine pickQn_neg (by first|assumption|omega) ?_) | ((with_reducible refine oQ_one ?_ ?_); exact ⟨_, rfl⟩) | (with_reducible first|refine And.intro (Eq.refl (α := World) _) ?_|refine forall_one ?_|refine oQ_nil ?_) | (with_reducible refine oQ_of ⟨_, rfl⟩ (fun W0 hW0 => by (refine oM_gen (fun Kv hK => ?_)); simp [go_sem]; (first | exact hK _ _ ⟨rfl, rfl⟩ | exact ⟨by omega, hK _ _ ⟨rfl, rfl⟩⟩)) ?_)
    | (with_reducible first|refine gdtT ?_|refine gdtF ?_|refine gdfF ?_|refine gdfT ?_|refine gdu ?_ _|refine gdt_pos (by first|assumption|omega) ?_|refine gdt_neg (by first|assumption|omega) ?_|refine gdt_split (fun hg => ?_) (fun hg => ?_)|refine gdf_pos (by first|assumption|omega) ?_|refine gdf_neg (by first|assumption|omega) ?_|refine gdf_split (fun hg => ?_) (fun hg => ?_)|refine gdtn_pos (by first|assumption|omega) ?_|refine gdtn_neg (by first|assumption|omega) ?_|refine gdtn_split (fun hg => ?_) (fun hg => ?_)|refine gdfn_pos (by first|assumption|omega) ?_|refine gdfn_neg (by first|assumption|omega) ?_|refine gdfn_split (fun hg => ?_) (fun hg => ?_)|refine gdtbn_pos (by assumption) ?_|refine gdtbn_neg (by assumption) ?_|refine gdfbn_pos (by assumption) ?_|refine gdfbn_neg (by assumption) ?_|refine gdtb_pos (by assumption) ?_|refine gdtb_neg (by assumption) ?_|refine gdtb_split (fun hg => ?_) (fun hg => ?_)|refine gdfb_pos (by assumption) ?_|refine gdfb_neg (by assumption) ?_|refine gdfb_split (fun hg => ?_) (fun hg => ?_)|refine pickT ?_|refine pickF ?_|refine pick_pos (by first|assumption|omega) ?_|refine pick_neg (by first|assumption|omega) ?_|refine pickn_pos (by first|assumption|omega) ?_|refine pickn_neg (by first|assumption|omega) ?_|refine pickbn_pos (by assumption) ?_|refine pickbn_neg (by assumption) ?_|refine pickb_pos (by assumption) ?_|refine pickb_neg (by assumption) ?_|refine condT ?_|refine condF ?_|refine cond_pos (by first|assumption|omega) ?_|refine cond_neg (by first|assumption|omega) ?_|refine condM_dec (fun hg => ?_) (fun hg => ?_)|refine condn_pos (by first|assumption|omega) ?_|refine condn_neg (by first|assumption|omega) ?_|refine condM_ndec (fun hg => ?_) (fun hg => ?_)|refine condbn_pos (by assumption) ?_|refine condbn_neg (by assumption) ?_|refine condbn_split (fun hg => ?_) (fun hg => ?_)|refine condb_pos (by assumption) ?_|refine condb_neg (by assumption) ?_|refine condM_b (fun hg => ?_) (fun hg => ?_))
    | ((with_reducible refine oM_gen (fun Kv hK => ?_)); simp [go_sem, hn, he]; (try simp (disch := omega) only [wrapI64, wrapU8, wrapU32, wrapU64]); (first | refine hK _ _ ?_ | refine And.intro (by omega) (hK _ _ ?_)); clear hK; clear Kv)))
    have pf : Fr (fun _ => False) w2 (w2.alloc (.cells #[.int .i64 y.1.1, .int .i64 y.1.2] 103 (0, 0))) := (Fr.refl _ _).alloc _
    have p0 := heap_alloc_new w2 (.cells #[.int .i64 y.1.1, .int .i64 y.1.2] 103 (0, 0))
    have pz := alloc_size w2 (.cells #[.int .i64 y.1.1, .int .i64 y.1.2] 103 (0, 0))
    generalize w2.alloc (.cells #[.int .i64 y.1.1, .int .i64 y.1.2] 103 (0, 0)) = w3 at *
    have hxl := (Array.getElem?_eq_some_iff.1 hx).1
    have hxs : x ≠ sm := fun e => by
      obtain ⟨es, c, hm⟩ := MapIs.isMap m
      rw [e, hm] at hx; cases hx
    have hx2 := (f2.block x hxl hxs).trans hx
    have hx3 := (pf.block x (Array.getElem?_eq_some_iff.1 hx2).1 (fun h => h)).trans hx2
    refine oM_callv2 isBody58 (test2_ok (f := f) y.1 y.2 hx3 (fun w4 f4 => ?_))
    have f24 := pf.trans f4 (fun _ h => h.elim)
    have R4 := R2.of_blocks (f24.block sm R2.lt.1 (fun h => h)) (f24.block w.heap.size R2.lt.2.1 (fun h => h))
    have p4 := (f4.block w2.heap.size (by omega) (fun h => h)).trans p0
    have p40 := cell_of_block p4 0
    have p41 := cell_of_block p4 1
    simp at p40 p41
    have fr4 : Fr (fun i => i = sm) w w4 := f2.trans f24 (fun _ h => h.elim)
    have hmem : y.1 ∈ (ls.filter (fun y => decide (¬ (y.1 ∈ done ∧ y.1.1 = f)))).map (·.1) := List.mem_map_of_mem hy
    have hlen4 := nodup_sub_len (y.1 :: done) _ (List.nodup_cons.2 ⟨hyd, hnd⟩) R4.sub
    simp only [List.length_cons] at hlen4
    obtain ⟨w5, hd, R5, g5, z5⟩ := run_deleteR (P := Tryd.prog) (t := 89) (et := 4) (ty := 0) keyS (by kernel_rfl) R4 y.1 hmem
    simp only [secV] at hd
    repeat (any_goals (first
    | (with_reducible refine pureM_in ?_)
    | (with_reducible first|refine pureQ_in ?_|refine gdQ_conv (fun _ => ?_)|refine pickQT ?_|refine pickQF ?_|refine pickQ_pos (by first|assumption|omega) ?_|refine pickQ_neg (by first|assumption|omega) ?_|refine pickQn_pos (by first|assumption|omega) ?_|refine pickQn_neg (by first|assumption|omega) ?_) | ((with_reducible refine oQ_one ?_ ?_); exact ⟨_, rfl⟩) | (with_reducible first|refine And.intro (Eq.refl (α := World) _) ?_|refine forall_one ?_|refine oQ_nil ?_) | (with_reducible refine oQ_of ⟨_, rfl⟩ (fun W0 hW0 => by (refine oM_gen (fun Kv hK => ?_)); simp [go_sem]; (first | exact hK _ _ ⟨rfl, rfl⟩ | exact ⟨by omega, hK _ _ ⟨rfl, rfl⟩⟩)) ?_)
    | (with_reducible first|refine gdtT ?_|refine gdtF ?_|refine gdfF ?_|refine gdfT ?_|refine gdu ?_ _|refine gdt_pos (by first|assumption|omega) ?_|refine gdt_neg (by first|assumption|omega) ?_|refine gdt_split (fun hg => ?_) (fun hg => ?_)|refine gdf_pos (by first|assumption|omega) ?_|refine gdf_neg (by first|assumption|omega) ?_|refine gdf_split (fun hg => ?_) (fun hg => ?_)|refine gdtn_pos (by first|assumption|omega) ?_|refine gdtn_neg (by first|assumption|omega) ?_|refine gdtn_split (fun hg => ?_) (fun hg => ?_)|refine gdfn_pos (by first|assumption|omega) ?_|refine gdfn_neg (by first|assumption|omega) ?_|refine gdfn_split (fun hg => ?_) (fun hg => ?_)|refine gdtbn_pos (by assumption) ?_|refine gdtbn_neg (by assumption) ?_|refine gdfbn_pos (by assumption) ?_|refine gdfbn_neg (by assumption) ?_|refine gdtb_pos (by assumption) ?_|refine gdtb_neg (by assumption) ?_|refine gdtb_split (fun hg => ?_) (fun hg => ?_)|refine gdfb_pos (by assumption) ?_|refine gdfb_neg (by assumption) ?_|refine gdfb_split (fun hg => ?_) (fun hg => ?_)|refine pickT ?_|refine pickF ?_|refine pick_pos (by first|assumption|omega) ?_|refine pick_neg (by first|assumption|omega) ?_|refine pickn_pos (by first|assumption|omega) ?_|refine pickn_neg (by first|assumption|omega) ?_|refine pickbn_pos (by assumption) ?_|refine pickbn_neg (by assumption) ?_|refine pickb_pos (by assumption) ?_|refine pickb_neg (by assumption) ?_|refine condT ?_|refine condF ?_|refine cond_pos (by first|assumption|omega) ?_|refine cond_neg (by first|assumption|omega) ?_|refine condM_dec (fun hg => ?_) (fun hg => ?_)|refine condn_pos (by first|assumption|omega) ?_|refine condn_neg (by first|assumption|omega) ?_|refine condM_ndec (fun hg => ?_) (fun hg => ?_)|refine condbn_pos (by assumption) ?_|refine condbn_neg (by assumption) ?_|refine condbn_split (fun hg => ?_) (fun hg => ?_)|refine condb_pos (by assumption) ?_|refine condb_neg (by assumption) ?_|refine condM_b (fun hg => ?_) (fun hg => ?_))
    | ((with_reducible refine oM_gen (fun Kv hK => ?_)); simp [go_sem, p40, p41, hd]; (try simp (disch := omega) only [wrapI64, wrapU8, wrapU32, wrapU64]); (first | refine hK _ _ ?_ | refine And.intro (by omega) (hK _ _ ?_)); clear hK; clear Kv)))
    · have hf : y.1.1 = f := by assumption
      refine ⟨⟨_, y.1 :: done, rfl, List.nodup_cons.2 ⟨hyd, hnd⟩, ?_, fr4.by g5 (fun i hi => by cases hi; exact .inl rfl)⟩, ?_⟩
      · have e : delA (ls.filter (fun y => decide (¬ (y.1 ∈ done ∧ y.1.1 = f)))) y.1 = ls.filter (fun z => decide (¬ (z.1 ∈ y.1 :: done ∧ z.1.1 = f))) := by
          unfold delA
          rw [List.filter_filter]
          apply List.filter_congr
          intro z _
          by_cases hz : z.1 = y.1
          · simp [hz, hf]
          · simp [hz]
        rw [← e]; exact R5
      · have := R5.seen
        simp only [List.length_cons] at this
        show _ - _ < _ - _
        omega
    · have hf : ¬ y.1.1 = f := by assumption
      refine ⟨⟨_, y.1 :: done, rfl, List.nodup_cons.2 ⟨hyd, hnd⟩, ?_, fr4⟩, ?_⟩
      · have e : ls.filter (fun y => decide (¬ (y.1 ∈ done ∧ y.1.1 = f))) = ls.filter (fun z => decide (¬ (z.1 ∈ y.1 :: done ∧ z.1.1 = f))) := by
          apply List.filter_congr
          intro z _
          by_cases hz : z.1 = y.1
          · simp [hz, hf]
          · simp [hz]
        rw [← e]; exact R4
      · have := R4.seen
        simp only [List.length_cons] at this
        show _ - _ < _ - _
        omega
end
end Go.Proofs
namespace Go.Proofs
open Go Go.Sh Go.RowKit DkSpec
set_option linter.unusedSimpArgs false
set_option maxRecDepth 10000
attribute [local go_sem] oM_indexAddr
section
variable {w : World} {b : Nat} {A : Ab} {h : Dk} {K : Value → World → Prop}
@[go_sem] theorem oM_makeFuncC {P : Program} (fn : Fn) (T : TypeId) (x : Value) : oM P (.makeFunc fn #[] #[.tmp 0]) T [x] K w = K (.func fn #[] #[x]) w := oM_of_run (by simp [xop, execOp, evalL, evE, Instr.makeFunc])
theorem settle_ok (d : IsDk w b A h) (f : Int) (s : Bs) (hs : s.length ≤ 16777216) (k : ∀ w' h', IsDk w' b (settleA A f s) h' → Step w b h w' h' → K (.tuple #[]) w') : callM Tryd.prog 96 #[dkP b, .int .i64 f, bsV s] K w := by
  apply sh_96_ok
  unfold sh_96
  repeat (any_goals (first
  | (with_reducible refine pureM_in ?_)
  | (with_reducible first|refine pureQ_in ?_|refine gdQ_conv (fun _ => ?_)|refine pickQT ?_|refine pickQF ?_|refine pickQ_pos (by first|assumption|omega) ?_|refine pickQ_neg (by first|assumption|omega) ?_|refine pickQn_pos (by first|assumption|omega) ?_|refine pickQn_neg (by first|assumption|omega) ?_) | ((with_reducible refine oQ_one ?_ ?_); exact ⟨_, rfl⟩) | (with_reducible first|refine And.intro (Eq.refl (α := World) _) ?_|refine forall_one ?_|refine oQ_nil ?_) | (with_reducible refine oQ_of ⟨_, rfl⟩ (fun W0 hW0 => by (refine oM_gen (fun Kv hK => ?_)); simp [go_sem]; (first | exact hK _ _ ⟨rfl, rfl⟩ | exact ⟨by omega, hK _ _ ⟨rfl, rfl⟩⟩)) ?_)
  | (with_reducible first|refine gdtT ?_|refine gdtF ?_|refine gdfF ?_|refine gdfT ?_|refine gdu ?_ _|refine gdt_pos (by first|assumption|omega) ?_|refine gdt_neg (by first|assumption|omega) ?_|refine gdt_split (fun hg => ?_) (fun hg => ?_)|refine gdf_pos (by first|assumption|omega) ?_|refine gdf_neg (by first|assumption|omega) ?_|refine gdf_split (fun hg => ?_) (fun hg => ?_)|refine gdtn_pos (by first|assumption|omega) ?_|refine gdtn_neg (by first|assumption|omega) ?_|refine gdtn_split (fun hg => ?_) (fun hg => ?_)|refine gdfn_pos (by first|assumption|omega) ?_|refine gdfn_neg (by first|assumption|omega) ?_|refine gdfn_split (fun hg => ?_) (fun hg => ?_)|refine gdtbn_pos (by assumption) ?_|refine gdtbn_neg (by assumption) ?_|refine gdfbn_pos (by assumption) ?_|refine gdfbn_neg (by assumption) ?_|refine gdtb_pos (by assumption) ?_|refine gdtb_neg (by assumption) ?_|refine gdtb_split (fun hg => ?_) (fun hg => ?_)|refine gdfb_pos (by assumption) ?_|refine gdfb_neg (by assumption) ?_|refine gdfb_split (fun hg => ?_) (fun hg => ?_)|refine pickT ?_|refine pickF ?_|refine pick_pos (by first|assumption|omega) ?_|refine pick_neg (by first|assumption|omega) ?_|refine pickn_pos (by first|assumption|omega) ?_|refine pickn_neg (by first|assumption|omega) ?_|refine pickbn_pos (by assumption) ?_|refine pickbn_neg (by assumption) ?_|refine pickb_pos (by assumption) ?_|refine pickb_neg (by assumption) ?_|refine condT ?_|refine condF ?_|refine cond_pos (by first|assumption|omega) ?_|refine cond_neg (by first|assumption|omega) ?_|refine condM_dec (fun hg => ?_) (fun hg => ?_)|refine condn_pos (by first|assumption|omega) ?_|refine condn_neg (by first|assumption|omega) ?_|refine condM_ndec (fun hg => ?_) (fun hg => ?_)|refine condbn_pos (by assumption) ?_|refine condbn_neg (by assumption) ?_|refine condbn_split (fun hg => ?_) (fun hg => ?_)|refine condb_pos (by assumption) ?_|refine condb_neg (by assumption) ?_|refine condM_b (fun hg => ?_) (fun hg => ?_))
  | ((with_reducible refine oM_gen (fun Kv hK => ?_)); simp [go_sem]; (try simp (disch := omega) only [wrapI64, wrapU8, wrapU32, wrapU64]); (first | refine hK _ _ ?_ | refine And.intro (by omega) (hK _ _ ?_)); clear hK; clear Kv)))
  have pf : Fr (fun _ => False) w (w.alloc (.cells #[.int .i64 f] 3 (0, 0))) := (Fr.refl _ _).alloc _
  have p0 := heap_alloc_new w (.cells #[.int .i64 f] 3 (0, 0))
  have pz := alloc_size w (.cells #[.int .i64 f] 3 (0, 0))
  generalize w.alloc (.cells #[.int .i64 f] 3 (0, 0)) = w1 at *
  have d1 := d.fresh pf
  have c0 := d1.c 0
  simp only [dkCells] at c0
  have p00 := cell_of_block p0 0
  simp at p00
  refine ⟨fun sg w' => sg ≤ 1 → w'.heap = w1.heap, fun _ => rfl, ?_⟩
  repeat (first | (with_reducible refine pureH_in ?_) | (with_reducible refine oH_nil ?_) | (with_reducible refine gdH_true rfl ?_) | (with_reducible refine gdH_false rfl ?_) | (refine oH_of ⟨_, rfl⟩ (fun W0 hW0 => by (obtain ⟨s0, hs0, hC⟩ := hW0); (refine oM_gen (fun Kv hK => ?_)); simp [go_sem, cell_heap (hC (by omega)), c0, p00]; (first | exact hK _ _ ⟨rfl, rfl⟩ | exact ⟨by omega, hK _ _ ⟨rfl, rfl⟩⟩)) ?_))
  generalize hw2 : ({ w1 with drawn := w1.drawn + 1 } : World) = w2
  have hh : w2.heap = w1.heap := by rw [← hw2]
  have d2 := d1.heap hh
  have f2 : Fr (fun _ => False) w w2 := by rw [← hw2]; exact pf.drew
  have p2 : w2.heap[w.heap.size]? = some (.cells #[.int .i64 f] 3 (0, 0)) := by rw [hh]; exact p0
  rw [← hh] at pz
  clear hw2
  obtain ⟨w4, hr4, d4, t4⟩ := d2.setFile f (s, s) ⟨hs, hs⟩
  simp only at hr4
  repeat (any_goals (first
  | (with_reducible refine pureM_in ?_)
  | (with_reducible first|refine pureQ_in ?_|refine gdQ_conv (fun _ => ?_)|refine pickQT ?_|refine pickQF ?_|refine pickQ_pos (by first|assumption|omega) ?_|refine pickQ_neg (by first|assumption|omega) ?_|refine pickQn_pos (by first|assumption|omega) ?_|refine pickQn_neg (by first|assumption|omega) ?_) | ((with_reducible refine oQ_one ?_ ?_); exact ⟨_, rfl⟩) | (with_reducible first|refine And.intro (Eq.refl (α := World) _) ?_|refine forall_one ?_|refine oQ_nil ?_) | (with_reducible refine oQ_of ⟨_, rfl⟩ (fun W0 hW0 => by (refine oM_gen (fun Kv hK => ?_)); simp [go_sem]; (first | exact hK _ _ ⟨rfl, rfl⟩ | exact ⟨by omega, hK _ _ ⟨rfl, rfl⟩⟩)) ?_)
  | (with_reducible refine And.intro (fun _ => hh) ?_) | (with_reducible refine And.intro (fun hs => absurd hs (by decide)) ?_)
  | (with_reducible first|refine gdtT ?_|refine gdtF ?_|refine gdfF ?_|refine gdfT ?_|refine gdu ?_ _|refine gdt_pos (by first|assumption|omega) ?_|refine gdt_neg (by first|assumption|omega) ?_|refine gdt_split (fun hg => ?_) (fun hg => ?_)|refine gdf_pos (by first|assumption|omega) ?_|refine gdf_neg (by first|assumption|omega) ?_|refine gdf_split (fun hg => ?_) (fun hg => ?_)|refine gdtn_pos (by first|assumption|omega) ?_|refine gdtn_neg (by first|assumption|omega) ?_|refine gdtn_split (fun hg => ?_) (fun hg => ?_)|refine gdfn_pos (by first|assumption|omega) ?_|refine gdfn_neg (by first|assumption|omega) ?_|refine gdfn_split (fun hg => ?_) (fun hg => ?_)|refine gdtbn_pos (by assumption) ?_|refine gdtbn_neg (by assumption) ?_|refine gdfbn_pos (by assumption) ?_|refine gdfbn_neg (by assumption) ?_|refine gdtb_pos (by assumption) ?_|refine gdtb_neg (by assumption) ?_|refine gdtb_split (fun hg => ?_) (fun hg => ?_)|refine gdfb_pos (by assumption) ?_|refine gdfb_neg (by assumption) ?_|refine gdfb_split (fun hg => ?_) (fun hg => ?_)|refine pickT ?_|refine pickF ?_|refine pick_pos (by first|assumption|omega) ?_|refine pick_neg (by first|assumption|omega) ?_|refine pickn_pos (by first|assumption|omega) ?_|refine pickn_neg (by first|assumption|omega) ?_|refine pickbn_pos (by assumption) ?_|refine pickbn_neg (by assumption) ?_|refine pickb_pos (by assumption) ?_|refine pickb_neg (by assumption) ?_|refine condT ?_|refine condF ?_|refine cond_pos (by first|assumption|omega) ?_|refine cond_neg (by first|assumption|omega) ?_|refine condM_dec (fun hg => ?_) (fun hg => ?_)|refine condn_pos (by first|assumption|omega) ?_|refine condn_neg (by first|assumption|omega) ?_|refine condM_ndec (fun hg => ?_) (fun hg => ?_)|refine condbn_pos (by assumption) ?_|refine condbn_neg (by assumption) ?_|refine condbn_split (fun hg => ?_) (fun hg => ?_)|refine condb_pos (by assumption) ?_|refine condb_neg (by assumption) ?_|refine condM_b (fun hg => ?_) (fun hg => ?_))
  | ((with_reducible refine oM_gen (fun Kv hK => ?_)); simp [go_sem, hr4]; (try simp (disch := omega) only [wrapI64, wrapU8, wrapU32, wrapU64]); (first | refine hK _ _ ?_ | refine And.intro (by omega) (hK _ _ ?_)); clear hK; clear Kv)))
  have t04 : Step w b h w4 h := (Step.fresh f2).trans t4
  have blt : b < w.heap.size := d.lt (.inl (.inl rfl))
  have hnown : ∀ i, Own b h i → i < w.heap.size := fun i hi => d.lt (.inl hi)
  have p4 := (t4.fr.block w.heap.size (by omega) (fun ho => by have := hnown _ ho; omega)).trans p2
  have c1 := d4.c 1
  simp only [dkCells] at c1
  repeat (any_goals (first
  | (with_reducible refine pureM_in ?_)
  | (with_reducible first|refine pureQ_in ?_|refine gdQ_conv (fun _ => ?_)|refine pickQT ?_|refine pickQF ?_|refine pickQ_pos (by first|assumption|omega) ?_|refine pickQ_neg (by first|assumption|omega) ?_|refine pickQn_pos (by first|assumption|omega) ?_|refine pickQn_neg (by first|assumption|omega) ?_) | ((with_reducible refine oQ_one ?_ ?_); exact ⟨_, rfl⟩) | (with_reducible first|refine And.intro (Eq.refl (α := World) _) ?_|refine forall_one ?_|refine oQ_nil ?_) | (with_reducible refine oQ_of ⟨_, rfl⟩ (fun W0 hW0 => by (refine oM_gen (fun Kv hK => ?_)); simp [go_sem]; (first | exact hK _ _ ⟨rfl, rfl⟩ | exact ⟨by omega, hK _ _ ⟨rfl, rfl⟩⟩)) ?_)
  | (with_reducible refine delete_ok (f := f) (by have := d4.wf.ql; omega) p4 d4.que ?_)
  | (with_reducible first|refine gdtT ?_|refine gdtF ?_|refine gdfF ?_|refine gdfT ?_|refine gdu ?_ _|refine gdt_pos (by first|assumption|omega) ?_|refine gdt_neg (by first|assumption|omega) ?_|refine gdt_split (fun hg => ?_) (fun hg => ?_)|refine gdf_pos (by first|assumption|omega) ?_|refine gdf_neg (by first|assumption|omega) ?_|refine gdf_split (fun hg => ?_) (fun hg => ?_)|refine gdtn_pos (by first|assumption|omega) ?_|refine gdtn_neg (by first|assumption|omega) ?_|refine gdtn_split (fun hg => ?_) (fun hg => ?_)|refine gdfn_pos (by first|assumption|omega) ?_|refine gdfn_neg (by first|assumption|omega) ?_|refine gdfn_split (fun hg => ?_) (fun hg => ?_)|refine gdtbn_pos (by assumption) ?_|refine gdtbn_neg (by assumption) ?_|refine gdfbn_pos (by assumption) ?_|refine gdfbn_neg (by assumption) ?_|refine gdtb_pos (by assumption) ?_|refine gdtb_neg (by assumption) ?_|refine gdtb_split (fun hg => ?_) (fun hg => ?_)|refine gdfb_pos (by assumption) ?_|refine gdfb_neg (by assumption) ?_|refine gdfb_split (fun hg => ?_) (fun hg => ?_)|refine pickT ?_|refine pickF ?_|refine pick_pos (by first|assumption|omega) ?_|refine pick_neg (by first|assumption|omega) ?_|refine pickn_pos (by first|assumption|omega) ?_|refine pickn_neg (by first|assumption|omega) ?_|refine pickbn_pos (by assumption) ?_|refine pickbn_neg (by assumption) ?_|refine pickb_pos (by assumption) ?_|refine pickb_neg (by assumption) ?_|refine condT ?_|refine condF ?_|refine cond_pos (by first|assumption|omega) ?_|refine cond_neg (by first|assumption|omega) ?_|refine condM_dec (fun hg => ?_) (fun hg => ?_)|refine condn_pos (by first|assumption|omega) ?_|refine condn_neg (by first|assumption|omega) ?_|refine condM_ndec (fun hg => ?_) (fun hg => ?_)|refine condbn_pos (by assumption) ?_|refine condbn_neg (by assumption) ?_|refine condbn_split (fun hg => ?_) (fun hg => ?_)|refine condb_pos (by assumption) ?_|refine condb_neg (by assumption) ?_|refine condM_b (fun hg => ?_) (fun hg => ?_))
  | ((with_reducible refine oM_gen (fun Kv hK => ?_)); simp [go_sem, c1]; (try simp (disch := omega) only [wrapI64, wrapU8, wrapU32, wrapU64]); (first | refine hK _ _ ?_ | refine And.intro (by omega) (hK _ _ ?_)); clear hK; clear Kv)))
  intro v' w5 ho5 f5 hv5
  obtain ⟨va, vc, rfl⟩ := owns_len ho5
  have hq4 : ∀ i, h.q.ownBlock = some i → i < w.heap.size := fun i hi => hnown i (.inr (.inr (.inr hi)))
  have k5 : ∀ i, i < w4.heap.size → h.q.ownBlock ≠ some i → w5.heap[i]? = w4.heap[i]? := fun i hi hn => f5.block i hi (fun e => hn e)
  have hz4 := t4.fr.size
  have hz5 := f5.size
  have hqb : h.q.ownBlock ≠ some b := fun e => (d4.qne e).1 rfl
  have hqf : h.q.ownBlock ≠ some h.fm := fun e => (d4.qne e).2.1 rfl
  have hqs : h.q.ownBlock ≠ some h.sm := fun e => (d4.qne e).2.2 rfl
  have b5 := (k5 b (by omega) hqb).trans d4.blk
  have p5 := (k5 w.heap.size (by omega) (fun e => by have := hq4 _ e; omega)).trans p4
  have e1 := cell_of_block b5 1
  have y1 := frozen_of_block b5 1
  have b6 := block_set (i := 1) b5 (.slice va (keepQ f A.queue).length vc)
  have e2 := cell_of_block b6 2
  simp [dkCells] at e1 e2
  repeat (any_goals (first
  | (with_reducible refine pureM_in ?_)
  | (with_reducible first|refine pureQ_in ?_|refine gdQ_conv (fun _ => ?_)|refine pickQT ?_|refine pickQF ?_|refine pickQ_pos (by first|assumption|omega) ?_|refine pickQ_neg (by first|assumption|omega) ?_|refine pickQn_pos (by first|assumption|omega) ?_|refine pickQn_neg (by first|assumption|omega) ?_) | ((with_reducible refine oQ_one ?_ ?_); exact ⟨_, rfl⟩) | (with_reducible first|refine And.intro (Eq.refl (α := World) _) ?_|refine forall_one ?_|refine oQ_nil ?_) | (with_reducible refine oQ_of ⟨_, rfl⟩ (fun W0 hW0 => by (refine oM_gen (fun Kv hK => ?_)); simp [go_sem]; (first | exact hK _ _ ⟨rfl, rfl⟩ | exact ⟨by omega, hK _ _ ⟨rfl, rfl⟩⟩)) ?_)
  | (with_reducible first|refine gdtT ?_|refine gdtF ?_|refine gdfF ?_|refine gdfT ?_|refine gdu ?_ _|refine gdt_pos (by first|assumption|omega) ?_|refine gdt_neg (by first|assumption|omega) ?_|refine gdt_split (fun hg => ?_) (fun hg => ?_)|refine gdf_pos (by first|assumption|omega) ?_|refine gdf_neg (by first|assumption|omega) ?_|refine gdf_split (fun hg => ?_) (fun hg => ?_)|refine gdtn_pos (by first|assumption|omega) ?_|refine gdtn_neg (by first|assumption|omega) ?_|refine gdtn_split (fun hg => ?_) (fun hg => ?_)|refine gdfn_pos (by first|assumption|omega) ?_|refine gdfn_neg (by first|assumption|omega) ?_|refine gdfn_split (fun hg => ?_) (fun hg => ?_)|refine gdtbn_pos (by assumption) ?_|refine gdtbn_neg (by assumption) ?_|refine gdfbn_pos (by assumption) ?_|refine gdfbn_neg (by assumption) ?_|refine gdtb_pos (by assumption) ?_|refine gdtb_neg (by assumption) ?_|refine gdtb_split (fun hg => ?_) (fun hg => ?_)|refine gdfb_pos (by assumption) ?_|refine gdfb_neg (by assumption) ?_|refine gdfb_split (fun hg => ?_) (fun hg => ?_)|refine pickT ?_|refine pickF ?_|refine pick_pos (by first|assumption|omega) ?_|refine pick_neg (by first|assumption|omega) ?_|refine pickn_pos (by first|assumption|omega) ?_|refine pickn_neg (by first|assumption|omega) ?_|refine pickbn_pos (by assumption) ?_|refine pickbn_neg (by assumption) ?_|refine pickb_pos (by assumption) ?_|refine pickb_neg (by assumption) ?_|refine condT ?_|refine condF ?_|refine cond_pos (by first|assumption|omega) ?_|refine cond_neg (by first|assumption|omega) ?_|refine condM_dec (fun hg => ?_) (fun hg => ?_)|refine condn_pos (by first|assumption|omega) ?_|refine condn_neg (by first|assumption|omega) ?_|refine condM_ndec (fun hg => ?_) (fun hg => ?_)|refine condbn_pos (by assumption) ?_|refine condbn_neg (by assumption) ?_|refine condbn_split (fun hg => ?_) (fun hg => ?_)|refine condb_pos (by assumption) ?_|refine condb_neg (by assumption) ?_|refine condM_b (fun hg => ?_) (fun hg => ?_))
  | ((with_reducible refine oM_gen (fun Kv hK => ?_)); simp [go_sem, e1, y1, e2]; (try simp (disch := omega) only [wrapI64, wrapU8, wrapU32, wrapU64]); (first | refine hK _ _ ?_ | refine And.intro (by omega) (hK _ _ ?_)); clear hK; clear Kv)))
  have k6 : ∀ i, i ≠ b → (w5.setCell ⟨b, 1, none⟩ (.slice va (keepQ f A.queue).length vc)).heap[i]? = w5.heap[i]? := fun i hi => setCell_heap_ne _ _ _ _ hi
  have z6 := grown_setCell w5 ⟨b, 1, none⟩ (.slice va (keepQ f A.queue).length vc)
  have zz6 : (w5.setCell ⟨b, 1, none⟩ (.slice va (keepQ f A.queue).length vc)).heap.size = w5.heap.size := by simp [World.setCell]
  generalize w5.setCell ⟨b, 1, none⟩ (.slice va (keepQ f A.queue).length vc) = w6 at *
  have p6 := (k6 w.heap.size (by omega)).trans p5
  have hsm4 : h.sm < w.heap.size := hnown _ (.inr (.inr (.inl rfl)))
  have hfm4 : h.fm < w.heap.size := hnown _ (.inr (.inl rfl))
  obtain ⟨ls, ms, hls⟩ := d4.set
  have m6 : MapIs secV w6 h.sm ls := ms.of_block ((k6 _ d4.bsm.symm).trans (k5 _ (by omega) hqs))
  refine deleteMap_ok (f := f) p6 m6 (fun w7 m7 f7 => ?_)
  have k7 : ∀ i, i < w4.heap.size → i ≠ h.sm → w7.heap[i]? = w6.heap[i]? := fun i hi hn => f7.block i (by omega) hn
  have hvn : ∀ i, (Value.slice va (keepQ f A.queue).length vc).ownBlock = some i → i ≠ b ∧ i ≠ h.sm ∧ i < w.heap.size := fun i hi => ⟨(d4.qne (hv5 i hi)).1, (d4.qne (hv5 i hi)).2.2, hq4 i (hv5 i hi)⟩
  refine k w7 { h with q := .slice va (keepQ f A.queue).length vc } ⟨?_, ?_, ?_, ?_, ?_, d.ne, settleA_wf d.wf f s hs⟩ ⟨?_, ?_, fun i hi => .inl hi⟩
  · rw [k7 b (by omega) d4.bsm, b6]; rfl
  · obtain ⟨l, m, hl⟩ := d4.files
    exact ⟨l, m.of_block (by rw [k7 _ (by omega) d4.ne, k6 _ d4.bfm.symm, k5 _ (by omega) hqf]), hl⟩
  · refine ⟨_, m7, fun p => ?_⟩
    rw [lookA_filter (fun p : Int × Int => decide (p.1 ≠ f)), hls]
    show _ = if p ∈ A.queue.filter (fun p => decide (p.1 ≠ f)) then _ else _
    by_cases hp : p.1 = f
    · simp [hp]
    · simp [hp]
  · exact owns_keep ho5 (fun i hi => by
      have := hvn i hi
      rw [k7 i (by omega) this.2.1, k6 i this.1])
  · refine owns_keep d4.kep (fun i hi => ?_)
    have h1 := d4.kne hi
    have h2 := d4.lt (.inr hi)
    rw [k7 i h2 h1.2.2.1, k6 i h1.1, k5 i h2 h1.2.2.2]
  · have fA : Fr (Own b h) w w5 := t04.fr.trans f5 (fun i hi => .inl (.inr (.inr (.inr hi))))
    have fB : Fr (Own b h) w w6 := fA.by z6 (fun i hi => by cases hi; exact .inl (.inl rfl))
    exact fB.trans f7 (fun i hi => .inl (.inr (.inr (.inl hi))))
  · rintro i (rfl | rfl | rfl | hi)
    · exact .inl (.inl rfl)
    · exact .inl (.inr (.inl rfl))
    · exact .inl (.inr (.inr (.inl rfl)))
    · exact .inl (.inr (.inr (.inr (hv5 i hi))))
end
end Go.Proofs
