/- The disk of the document as a plain value, and what each call does to it. No program in sight. -/
set_option linter.all false
namespace DkSpec
abbrev Bs := List UInt8
/-- bytes put into a string -/
def putB (s : Bs) (at_ : Nat) (t : Bs) : Bs :=
  if t = [] then s else (s ++ List.replicate (at_ + t.length - s.length) 0).take at_ ++ t ++ (s ++ List.replicate (at_ + t.length - s.length) 0).drop (at_ + t.length)
structure Ab where
  F : Int → Bs × Bs
  queue : List (Int × Int)
  lost : Int
  down : Bool
  armed : Int
  keep : List Int
def setF (F : Int → Bs × Bs) (f : Int) (x : Bs × Bs) : Int → Bs × Bs := fun g => if g = f then x else F g
def pushQ (f : Int) : List (Int × Int) → List Int → List (Int × Int)
  | q, [] => q
  | q, n :: ns => pushQ f (if (f, n) ∈ q then q else q ++ [(f, n)]) ns
def secs (at_ len : Nat) : List Int := (List.range' (at_ / 64) ((at_ + len - 1) / 64 + 1 - at_ / 64)).map Int.ofNat
def newA : Ab := ⟨fun _ => ([], []), [], 0, false, 0, []⟩
def mayA (A : Ab) (f : Int) : Int := if A.down = true then 8 else if f < 0 ∨ 16 ≤ f then 1 else 0
def addA (A : Ab) (f : Int) (at_ : Nat) (s : Bs) : Ab := if s = [] then A else { A with F := setF A.F f (putB (A.F f).1 at_ s, (A.F f).2), queue := pushQ f A.queue (secs at_ s.length) }
def wrA (A : Ab) (f at_ : Int) (s : Bs) : Int × Ab :=
  if mayA A f ≠ 0 then (mayA A f, A) else if at_ < 0 then (1, A) else if 16777216 < at_ + s.length then (6, A) else (0, addA A f at_.toNat s)
def sector (s : Bs) (n : Int) : Bs := (s.drop (64 * n).toNat).take 64
def survF (keep : List Int) (F : Int → Bs × Bs) (i : Nat) (p : Int × Int) : Int → Bs × Bs :=
  if keep = [] ∨ keep.getD (i % keep.length) 0 % 2 = 0 ∨ ((F p.1).1.length : Int) ≤ 64 * p.2 then F else setF F p.1 ((F p.1).1, putB (F p.1).2 (64 * p.2).toNat (sector (F p.1).1 p.2))
def survAll (keep : List Int) : (Int → Bs × Bs) → Nat → List (Int × Int) → Int → Bs × Bs
  | F, _, [] => F
  | F, i, p :: q => survAll keep (survF keep F i p) (i + 1) q
def crashA (A : Ab) (keep : List Int) : Ab :=
  if A.down = true then A else { A with F := fun f => ((survAll keep A.F 0 A.queue f).2, (survAll keep A.F 0 A.queue f).2), queue := [], down := true, armed := 0 }
def endsA (A : Ab) : Bool × Ab := if A.down = true ∨ A.armed = 0 then (false, A) else (decide (A.armed = 1), { A with armed := A.armed - 1 })
def settleA (A : Ab) (f : Int) (s : Bs) : Ab := { A with F := setF A.F f (s, s), queue := A.queue.filter (fun p => decide (p.1 ≠ f)) }
def comesA (A : Ab) : Ab := if (endsA A).1 = true then crashA (endsA A).2 (endsA A).2.keep else (endsA A).2
def writeA (A : Ab) (f at_ : Int) (s : Bs) : Int × Ab :=
  if (endsA A).1 = true then (8, crashA (wrA (endsA A).2 f at_ s).2 (wrA (endsA A).2 f at_ s).2.keep) else wrA (endsA A).2 f at_ s
def syncA (A : Ab) (f : Int) : Int × Ab :=
  if mayA (comesA A) f ≠ 0 then (mayA (comesA A) f, comesA A) else if 0 < (comesA A).lost then (9, { comesA A with lost := (comesA A).lost - 1 }) else (0, settleA (comesA A) f ((comesA A).F f).1)
def truncA (A : Ab) (f n : Int) : Int × Ab :=
  if mayA (comesA A) f ≠ 0 then (mayA (comesA A) f, comesA A) else if n < 0 ∨ (((comesA A).F f).1.length : Int) < n then (1, comesA A) else (0, settleA (comesA A) f (((comesA A).F f).1.take n.toNat))
def loseA (A : Ab) (n : Int) : Ab := { A with lost := max n 0 }
def armA (A : Ab) (n : Int) (keep : List Int) : Ab := { A with armed := max n 0, keep := keep }
def startA (A : Ab) : Ab := { A with down := false }
def readA (A : Ab) (f at_ size : Int) : Bs × Int :=
  if mayA A f ≠ 0 then ([], mayA A f) else if at_ < 0 ∨ size < 0 then ([], 1) else (((A.F f).1.drop at_.toNat).take size.toNat, 0)

/-! ### bounds -/
structure WF (A : Ab) : Prop where
  l0 : 0 ≤ A.lost
  l1 : A.lost < 2 ^ 63
  a0 : 0 ≤ A.armed
  a1 : A.armed < 2 ^ 63
  nd : A.queue.Nodup
  qr : ∀ p ∈ A.queue, 0 ≤ p.1 ∧ p.1 < 16 ∧ 0 ≤ p.2 ∧ p.2 < 262144
  sz : ∀ f, (A.F f).1.length ≤ 16777216 ∧ (A.F f).2.length ≤ 16777216
  kr : ∀ x ∈ A.keep, -2 ^ 63 ≤ x ∧ x < 2 ^ 63
  kl : A.keep.length < 2 ^ 62
theorem length_lt (l : List Nat) (n : Nat) (hn : l.Nodup) (h : ∀ x ∈ l, x < n) : l.length ≤ n := by
  induction n generalizing l with
  | zero =>
    cases l with
    | nil => simp
    | cons x l => exact absurd (h x (List.mem_cons_self ..)) (by omega)
  | succ n ih =>
    by_cases hm : n ∈ l
    · have := ih (l.erase n) (hn.erase n) (fun x hx => by
        have h1 := (hn.mem_erase_iff).1 hx
        have := h x h1.2
        have := h1.1
        omega)
      rw [List.length_erase_of_mem hm] at this
      omega
    · have := ih l hn (fun x hx => by
        have := h x hx
        have : x ≠ n := fun e => hm (e ▸ hx)
        omega)
      omega
theorem WF.ql {A : Ab} (h : WF A) : A.queue.length ≤ 4194304 := by
  have hm : (A.queue.map (fun p => (p.1 * 262144 + p.2).toNat)).Nodup := by
    have hq := h.qr
    have hn := h.nd
    generalize A.queue = q at hq hn
    induction q with
    | nil => simp
    | cons p q ih =>
      rw [List.nodup_cons] at hn
      rw [List.map_cons, List.nodup_cons]
      refine ⟨?_, ih (fun x hx => hq x (List.mem_cons_of_mem _ hx)) hn.2⟩
      intro hm
      obtain ⟨x, hx, e⟩ := List.mem_map.1 hm
      have h1 := hq x (List.mem_cons_of_mem _ hx)
      have h2 := hq p (List.mem_cons_self ..)
      have : x = p := by
        obtain ⟨a, b⟩ := x
        obtain ⟨c, d⟩ := p
        simp only [Prod.mk.injEq] at *
        omega
      exact hn.1 (this ▸ hx)
  have := length_lt _ 4194304 hm (fun x hx => by
    obtain ⟨p, hp, rfl⟩ := List.mem_map.1 hx
    have := h.qr p hp
    omega)
  simpa using this
theorem putB_length (s : Bs) (a : Nat) (t : Bs) : (putB s a t).length = if t = [] then s.length else max s.length (a + t.length) := by
  unfold putB
  split
  · rfl
  · simp only [List.length_append, List.length_take, List.length_drop, List.length_replicate]
    omega
theorem pushQ_mem (f : Int) (ns : List Int) (q : List (Int × Int)) (p : Int × Int) : p ∈ pushQ f q ns ↔ p ∈ q ∨ (p.1 = f ∧ p.2 ∈ ns) := by
  induction ns generalizing q with
  | nil => simp [pushQ]
  | cons n ns ih =>
    unfold pushQ
    rw [ih]
    have e : p = (f, n) ↔ p.1 = f ∧ p.2 = n := Prod.ext_iff
    have h1 : p ∈ (if (f, n) ∈ q then q else q ++ [(f, n)]) ↔ p ∈ q ∨ (p.1 = f ∧ p.2 = n) := by
      rw [← e]
      split
      · rename_i hm
        exact ⟨.inl, fun h => h.elim id (fun e => e ▸ hm)⟩
      · rw [List.mem_append, List.mem_singleton]
    rw [h1, List.mem_cons]
    grind
theorem pushQ_nodup (f : Int) (ns : List Int) (q : List (Int × Int)) (h : q.Nodup) : (pushQ f q ns).Nodup := by
  induction ns generalizing q with
  | nil => exact h
  | cons n ns ih =>
    unfold pushQ
    apply ih
    split
    · exact h
    · rename_i hm
      rw [List.nodup_append]
      refine ⟨h, by simp, ?_⟩
      intro a ha b hb
      simp only [List.mem_singleton] at hb
      subst hb
      rintro rfl
      exact hm ha
theorem secs_mem (a len : Nat) (n : Int) (hl : 0 < len) : n ∈ secs a len ↔ 0 ≤ n ∧ (a / 64 : Nat) ≤ n ∧ n ≤ ((a + len - 1) / 64 : Nat) := by
  unfold secs
  simp only [List.mem_map, List.mem_range'_1]
  constructor
  · rintro ⟨k, hk, rfl⟩
    simp only [Int.ofNat_eq_natCast]
    omega
  · rintro ⟨h0, h1, h2⟩
    refine ⟨n.toNat, by omega, ?_⟩
    simp only [Int.ofNat_eq_natCast]
    omega
theorem setF_same (F : Int → Bs × Bs) (f : Int) (x : Bs × Bs) : setF F f x f = x := by simp [setF]
theorem setF_ne (F : Int → Bs × Bs) (f g : Int) (x : Bs × Bs) (h : g ≠ f) : setF F f x g = F g := by simp [setF, h]
theorem newA_wf : WF newA := ⟨by decide, by decide, by decide, by decide, by simp [newA], by simp [newA], by simp [newA], by simp [newA], by simp [newA]⟩
theorem mayA_ok {A : Ab} {f : Int} (h : mayA A f = 0) : A.down = false ∧ 0 ≤ f ∧ f < 16 := by
  unfold mayA at h
  cases hd : A.down with
  | true => rw [hd] at h; simp at h
  | false =>
    rw [hd] at h
    simp only [Bool.false_eq_true, if_false] at h
    split at h
    · cases h
    · exact ⟨rfl, by omega, by omega⟩
theorem addA_wf {A : Ab} (h : WF A) (f : Int) (a : Nat) (s : Bs) (hf : 0 ≤ f ∧ f < 16) (hs : a + s.length ≤ 16777216) : WF (addA A f a s) := by
  unfold addA
  split
  · exact h
  · rename_i hne
    have hl : 0 < s.length := List.length_pos_iff.2 hne
    refine ⟨h.l0, h.l1, h.a0, h.a1, pushQ_nodup f _ _ h.nd, ?_, ?_, h.kr, h.kl⟩
    · intro p hp
      rcases (pushQ_mem f _ _ p).1 hp with hp | ⟨h1, h2⟩
      · exact h.qr p hp
      · rw [secs_mem _ _ _ hl] at h2
        omega
    · intro g
      by_cases hg : g = f
      · subst hg
        show (setF A.F g _ g).1.length ≤ _ ∧ (setF A.F g _ g).2.length ≤ _
        rw [setF_same, putB_length, if_neg hne]
        have := h.sz g
        exact ⟨by show max _ _ ≤ _; omega, this.2⟩
      · show (setF A.F f _ g).1.length ≤ _ ∧ (setF A.F f _ g).2.length ≤ _
        rw [setF_ne _ _ _ _ hg]
        exact h.sz g
theorem wrA_wf {A : Ab} (h : WF A) (f a : Int) (s : Bs) : WF (wrA A f a s).2 := by
  unfold wrA
  split
  · exact h
  · rename_i hm
    split
    · exact h
    · split
      · exact h
      · have := mayA_ok (Decidable.not_not.1 hm)
        exact addA_wf h f _ s this.2 (by omega)
theorem endsA_wf {A : Ab} (h : WF A) : WF (endsA A).2 := by
  unfold endsA
  split
  · exact h
  · rename_i hn
    have h0 := h.a0
    have h1 := h.a1
    have : ¬ A.armed = 0 := fun e => hn (.inr e)
    exact ⟨h.l0, h.l1, by show 0 ≤ A.armed - 1; omega, by show A.armed - 1 < _; omega, h.nd, h.qr, h.sz, h.kr, h.kl⟩
theorem survF_sz (keep : List Int) (F : Int → Bs × Bs) (i : Nat) (p : Int × Int) (hp : 0 ≤ p.2) (h : ∀ f, (F f).1.length ≤ 16777216 ∧ (F f).2.length ≤ 16777216) (f : Int) : (survF keep F i p f).1 = (F f).1 ∧ (survF keep F i p f).2.length ≤ 16777216 := by
  unfold survF
  split
  · exact ⟨rfl, (h f).2⟩
  · rename_i hn
    by_cases hf : f = p.1
    · subst hf
      rw [setF_same]
      refine ⟨rfl, ?_⟩
      simp only [putB_length, sector]
      have h1 := h p.1
      have : ¬ ((F p.1).1.length : Int) ≤ 64 * p.2 := fun e => hn (.inr (.inr e))
      split
      · exact h1.2
      · simp only [List.length_take, List.length_drop]
        omega
    · rw [setF_ne _ _ _ _ hf]
      exact ⟨rfl, (h f).2⟩
theorem survAll_sz (keep : List Int) (q : List (Int × Int)) (F : Int → Bs × Bs) (i : Nat) (hq : ∀ p ∈ q, 0 ≤ p.2) (h : ∀ f, (F f).1.length ≤ 16777216 ∧ (F f).2.length ≤ 16777216) (f : Int) : (survAll keep F i q f).1 = (F f).1 ∧ (survAll keep F i q f).2.length ≤ 16777216 := by
  induction q generalizing F i with
  | nil => exact ⟨rfl, (h f).2⟩
  | cons p q ih =>
    unfold survAll
    have h1 := survF_sz keep F i p (hq p (List.mem_cons_self ..)) h
    have := ih (survF keep F i p) (i + 1) (fun x hx => hq x (List.mem_cons_of_mem _ hx)) (fun g => ⟨by rw [(h1 g).1]; exact (h g).1, (h1 g).2⟩)
    exact ⟨by rw [this.1, (h1 f).1], this.2⟩
theorem crashA_wf {A : Ab} (h : WF A) (keep : List Int) : WF (crashA A keep) := by
  unfold crashA
  split
  · exact h
  · refine ⟨h.l0, h.l1, Int.le_refl _, by show (0 : Int) < _; omega, List.nodup_nil, fun p hp => absurd hp (by simp), ?_, h.kr, h.kl⟩
    intro f
    have := survAll_sz keep A.queue A.F 0 (fun p hp => (h.qr p hp).2.2.1) h.sz f
    exact ⟨this.2, this.2⟩
theorem settleA_wf {A : Ab} (h : WF A) (f : Int) (s : Bs) (hs : s.length ≤ 16777216) : WF (settleA A f s) := by
  refine ⟨h.l0, h.l1, h.a0, h.a1, h.nd.filter _, fun p hp => h.qr p (List.mem_filter.1 hp).1, ?_, h.kr, h.kl⟩
  intro g
  show (setF A.F f _ g).1.length ≤ _ ∧ (setF A.F f _ g).2.length ≤ _
  by_cases hg : g = f
  · subst hg; rw [setF_same]; exact ⟨hs, hs⟩
  · rw [setF_ne _ _ _ _ hg]; exact h.sz g
theorem comesA_wf {A : Ab} (h : WF A) : WF (comesA A) := by
  unfold comesA
  split
  · exact crashA_wf (endsA_wf h) _
  · exact endsA_wf h
theorem writeA_wf {A : Ab} (h : WF A) (f a : Int) (s : Bs) : WF (writeA A f a s).2 := by
  unfold writeA
  split
  · exact crashA_wf (wrA_wf (endsA_wf h) f a s) _
  · exact wrA_wf (endsA_wf h) f a s
theorem syncA_wf {A : Ab} (h : WF A) (f : Int) : WF (syncA A f).2 := by
  have h1 := comesA_wf h
  unfold syncA
  split
  · exact h1
  · split
    · rename_i hl
      have := h1.l1
      exact ⟨by show 0 ≤ (comesA A).lost - 1; omega, by show (comesA A).lost - 1 < _; omega, h1.a0, h1.a1, h1.nd, h1.qr, h1.sz, h1.kr, h1.kl⟩
    · exact settleA_wf h1 f _ (h1.sz f).1
theorem truncA_wf {A : Ab} (h : WF A) (f n : Int) : WF (truncA A f n).2 := by
  have h1 := comesA_wf h
  unfold truncA
  split
  · exact h1
  · split
    · exact h1
    · refine settleA_wf h1 f _ ?_
      have := (h1.sz f).1
      simp only [List.length_take]
      omega
theorem loseA_wf {A : Ab} (h : WF A) (n : Int) (hn : n < 2 ^ 63) : WF (loseA A n) :=
  ⟨by show 0 ≤ max n 0; omega, by show max n 0 < _; omega, h.a0, h.a1, h.nd, h.qr, h.sz, h.kr, h.kl⟩
theorem armA_wf {A : Ab} (h : WF A) (n : Int) (hn : n < 2 ^ 63) (keep : List Int) (hk : ∀ x ∈ keep, -2 ^ 63 ≤ x ∧ x < 2 ^ 63) (hl : keep.length < 2 ^ 62) : WF (armA A n keep) :=
  ⟨h.l0, h.l1, by show 0 ≤ max n 0; omega, by show max n 0 < _; omega, h.nd, h.qr, h.sz, hk, hl⟩
theorem startA_wf {A : Ab} (h : WF A) : WF (startA A) := ⟨h.l0, h.l1, h.a0, h.a1, h.nd, h.qr, h.sz, h.kr, h.kl⟩
end DkSpec
