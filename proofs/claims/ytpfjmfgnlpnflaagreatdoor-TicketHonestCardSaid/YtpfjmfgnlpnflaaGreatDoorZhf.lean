/- Parts of the proof of the seat's statements (TpC, TpD, TpE, TpF, TpG, TpH, TpI, TpJ, TpK, TpL, TpM, TzA): lemmas about the given translation and plain laws. No condition of their own. -/
import Derived.Test.YtpfjmfgnlpnflaaGreatDoorZhe
set_option linter.all false
set_option maxRecDepth 100000
namespace TpA
open FdSpec FdPoly GrLaw GrPr TkSpec
theorem dot_nil_right (bs : List Int) : dot bs [] = 0 := by cases bs <;> rfl
theorem foldl_dot {q : Int} (hq : okN q) : ∀ (es bs : List Int) (o : Int), q ∣ (es.zip bs).foldl (fun o p => addM q o (mulM q p.1 p.2)) o - (o + dot bs es)
  | [], bs, o => by simp [dot_nil_right]
  | e :: es, [], o => by simp [dot]
  | e :: es, b :: bs, o => by
    rw [List.zip_cons_cons, List.foldl_cons, dot]
    obtain ⟨k, hk⟩ := foldl_dot hq es bs (addM q o (mulM q e b))
    obtain ⟨l, hl⟩ := addM_dvd hq (a := o) (b := mulM q e b)
    obtain ⟨n, hn⟩ := mulM_dvd hq (a := e) (b := b)
    exact ⟨k + l + n, by grind⟩
theorem foldl_range {q : Int} (hq : okN q) : ∀ (l : List (Int × Int)) (o : Int), (0 ≤ o ∧ o < q) → 0 ≤ l.foldl (fun o p => addM q o (mulM q p.1 p.2)) o ∧ l.foldl (fun o p => addM q o (mulM q p.1 p.2)) o < q
  | [], o, h => h
  | p :: l, o, _ => by rw [List.foldl_cons]; exact foldl_range hq l _ (addM_range _ _ _ hq)
theorem logM_eq (s : Stp) (m : Mir) (attrs : List Int) : logM s m attrs = ((expsM attrs).zip m.bases).foldl (fun o p => addM s.g.Q o (mulM s.g.Q p.1 p.2)) 0 := rfl
theorem makeG_valid {q : Int} (h : (makeG q).2 = true) : validG (makeG q).1 = true ∧ (makeG q).1.Q = q := by
  unfold makeG at h ⊢
  split at h
  · cases h
  · rename_i h0
    rw [if_neg h0]
    split at h
    · rename_i h1
      rw [if_pos h1]; exact ⟨h1, rfl⟩
    · cases h
structure Md (g : Grp) (m : Mir) (s : Stp) : Prop where
  eg : s.g = g
  v : validG s.g = true
  vs : validS s = true
  len : s.bases.length = m.bases.length
  b2 : 2 ≤ m.bases.length
  log : ∀ es : List Int, Cg s.g.P (PX s.g (s.bases.zip es)) (Ex s.g s.g.G (dot m.bases es))
  rng : ∀ b ∈ m.bases, 1 ≤ b ∧ b < s.g.Q
theorem PX_map {g : Grp} (hv : validG g = true) : ∀ (ms es : List Int), Cg g.P (PX g ((ms.map (powerG g g.G)).zip es)) (Ex g g.G (dot ms es))
  | [], es => by simp [PX, dot, Ex_zero]; exact Cg.refl _ _
  | m :: ms, [] => by simp [PX, dot, Ex_zero]; exact Cg.refl _ _
  | m :: ms, e :: es => by
    have hg := gv_of hv
    rw [List.map_cons, List.zip_cons_cons, PX, dot]
    have h3 : Cg g.P (Ex g (powerG g g.G m) e) (Ex g g.G (m * e)) := (Ex_cg (powerG_cg hg g.G m) e).trans (Ex_mul hg (El.gen hg) m e).symm
    exact (h3.mul (PX_map hv ms es)).trans (Ex_add hg (El.gen hg) _ _).symm
theorem powG_el {g : Grp} (hv : validG g = true) (k : Int) : El g (powerG g g.G k) := ((El.gen (gv_of hv)).ex k).cg (powerG_cg (gv_of hv) _ _)
theorem el_range {g : Grp} (hv : validG g = true) {x : Int} (hx : El g x) (h0 : 0 ≤ x) (h1 : x < g.P) : 1 ≤ x := by
  have hg := gv_of hv
  have q0 := hg.q0
  apply Classical.byContradiction
  intro hc
  have e : x = 0 := by omega
  have h2 : Cg g.P (x ^ g.Q.toNat) 1 := hx
  rw [e, Int.zero_pow (by omega)] at h2
  have h3 : g.P ∣ 0 - 1 := h2
  have h4 : g.P ∣ 1 := by obtain ⟨k, hk⟩ := h3; exact ⟨-k, by grind⟩
  have := Int.le_of_dvd (by omega) h4
  have := hg.p
  omega
theorem el_elem {g : Grp} (hv : validG g = true) {x : Int} (hx : El g x) (h0 : 0 ≤ x) (h1 : x < g.P) : elemG g x = true := by
  have hg := gv_of hv
  unfold elemG
  have h2 := el_range hv hx h0 h1
  have h3 : pw g.P x g.Q.toNat = 1 := by
    have h4 := Cg.emod (show Cg g.P (x ^ g.Q.toNat) 1 from hx)
    rw [Int.emod_eq_of_lt (a := 1) (by omega) (by have := hg.q0; have := hg.p; omega)] at h4
    exact h4
  simp [h2, h1, hv, h3]
theorem powG_elem {g : Grp} (hv : validG g = true) (k : Int) : elemG g (powerG g g.G k) = true := by
  have := powerG_range (gv_of hv) g.G k
  exact el_elem hv (powG_el hv k) this.1 this.2
theorem powG_one {g : Grp} (hv : validG g = true) (k : Int) : powerG g g.G k = 1 ↔ k % g.Q = 0 := by
  have hg := gv_of hv
  have hc := powerG_cg hg g.G k
  constructor
  · intro h
    rw [h] at hc
    have h2 : Cg g.P (Ex g g.G k) (Ex g g.G 0) := by rw [Ex_zero]; exact hc.symm
    have := mod_of_dvd (Ex_dvd hv h2)
    simpa using this
  · intro h
    have e : Ex g g.G k = Ex g g.G 0 := Ex_cong (by simpa using h)
    rw [powerG_eq hg, e, Ex_zero, Int.emod_eq_of_lt (by omega) (by have := hg.q0; have := hg.p; omega)]
theorem made_md {g : Grp} {m : Mir} (h : (makeM g m).2 = true) : Md g m (makeM g m).1 := by
  unfold makeM at h ⊢
  split at h
  · rename_i h0
    rw [if_pos h0]
    simp only [Bool.and_eq_true, decide_eq_true_eq, Bool.not_eq_true'] at h0
    obtain ⟨⟨⟨⟨hv, h2⟩, h7⟩, hb⟩, hbl⟩ := h0
    have hr : ∀ b ∈ m.bases, 1 ≤ b ∧ b < g.Q := by
      intro b hm
      have := List.any_eq_false.mp hb b hm
      unfold badN at this
      simp at this
      omega
    have hbr : 1 ≤ m.blind ∧ m.blind < g.Q := by unfold badN at hbl; simp at hbl; omega
    have ho : ∀ b, (1 ≤ b ∧ b < g.Q) → otherM g (powerG g g.G b) = true := by
      intro b hb
      unfold otherM
      have h3 : powerG g g.G b ≠ 1 := fun h3 => by
        have := (powG_one hv b).mp h3
        rw [Int.emod_eq_of_lt (by omega) hb.2] at this
        omega
      simp [h3, powG_elem hv b]
    refine ⟨rfl, hv, ?_, by simp, h2, fun es => PX_map hv m.bases es, hr⟩
    unfold validS
    have h3 : (m.bases.map (powerG g g.G)).all (otherM g) = true := List.all_eq_true.mpr fun x hx => by
      obtain ⟨b, hb, rfl⟩ := List.mem_map.mp hx
      exact ho b (hr b hb)
    simp [hv, h2, h7, h3, ho m.blind hbr]
  · cases h
section
variable {g : Grp} {m : Mir} {s : Stp} (h : Md g m s)
include h
theorem Md.log_dvd (attrs : List Int) : s.g.Q ∣ logM s m attrs - dot m.bases (expsM attrs) := by
  have := foldl_dot (gv_of h.v).okQ (expsM attrs) m.bases 0
  rwa [Int.zero_add] at this
theorem Md.log_range (attrs : List Int) : 0 ≤ logM s m attrs ∧ logM s m attrs < s.g.Q := by
  rw [logM_eq]
  exact foldl_range (gv_of h.v).okQ _ 0 ⟨by omega, by have := (gv_of h.v).q0; omega⟩
def fineA (s : Stp) (attrs : List Int) : Bool := decide (attrs.length + 1 = s.bases.length) && numsM s 0 attrs && !decide (attrs.headD 0 = 0)
theorem Md.marks (attrs : List Int) : (fineA s attrs = false → markM s attrs = (0, false)) ∧ (fineA s attrs = true → markM s attrs = (powerG s.g s.g.G (logM s m attrs), true)) := by
  have e : (validS s && decide (attrs.length + 1 = s.bases.length) && numsM s 0 attrs && !decide (attrs.headD 0 = 0)) = fineA s attrs := by unfold fineA; rw [h.vs]; simp [Bool.and_assoc]
  constructor
  · intro hf
    unfold markM; rw [e, hf]; rfl
  · intro hf
    unfold markM
    rw [e, hf, if_pos rfl]
    have hl : s.bases.length = (expsM attrs).length := by unfold fineA at hf; simp at hf; show _ = attrs.length + 1; omega
    obtain ⟨_, h1, h2, h3⟩ := prodG_log h.v h.log hl
    have h4 := powerG_range (gv_of h.v) s.g.G (logM s m attrs)
    have h5 : (prodG s.g s.bases (expsM attrs)).1 = powerG s.g s.g.G (logM s m attrs) := by
      refine Cg.eq (P := s.g.P) ?_ ⟨h2, h3⟩ h4
      refine h1.trans (Cg.trans ?_ (powerG_cg (gv_of h.v) _ _).symm)
      rw [Ex_eq h.v (a := logM s m attrs) (h.log_dvd attrs)]
      exact Cg.refl _ _
    rw [h5]
theorem Md.usable (attrs : List Int) : (usableM s attrs).2 = (fineA s attrs && !decide (logM s m attrs = 0)) := by
  unfold usableM
  cases hf : fineA s attrs with
  | false => rw [(h.marks attrs).1 hf]; rfl
  | true =>
    rw [(h.marks attrs).2 hf]
    have h1 := h.log_range attrs
    have h2 : powerG s.g s.g.G (logM s m attrs) = 1 ↔ logM s m attrs = 0 := by
      rw [powG_one h.v, Int.emod_eq_of_lt h1.1 h1.2]
    show (true && !decide (powerG s.g s.g.G (logM s m attrs) = 1)) = _
    rw [decide_eq_decide.mpr h2]
end
end TpA
namespace TpA
open FdSpec FdPoly GrLaw GrPr TkSpec
theorem pow_el {g : Grp} (hv : validG g = true) {x : Int} (hx : El g x) (k : Int) : elemG g (powerG g x k) = true ∧ El g (powerG g x k) := by
  have hg := gv_of hv
  have h1 : El g (powerG g x k) := (hx.ex k).cg (powerG_cg hg x k)
  have := powerG_range hg x k
  exact ⟨el_elem hv h1 this.1 this.2, h1⟩
theorem dvd_iff_eq {q a b : Int} (ha : 0 ≤ a ∧ a < q) (hb : 0 ≤ b ∧ b < q) : q ∣ a - b ↔ a = b := ⟨fun h => range_eq h ha hb, fun h => ⟨0, by omega⟩⟩
theorem eq_iff {g : Grp} (hv : validG g = true) {x y a b : Int} (hx : Cg g.P x (Ex g g.G a)) (hy : Cg g.P y (Ex g g.G b)) (rx : 0 ≤ x ∧ x < g.P) (ry : 0 ≤ y ∧ y < g.P) : x = y ↔ g.Q ∣ a - b := by
  constructor
  · intro h
    subst h
    exact Ex_dvd hv (hx.symm.trans hy)
  · intro h
    refine Cg.eq (P := g.P) ?_ rx ry
    rw [Ex_eq hv h] at hx
    exact hx.trans hy.symm
def sndT (g : Grp) (first mark z a b r : Int) : Tkt := ⟨powerG g g.G mark, powerG g g.G first, powerG g (powerG g g.G mark) z, powerG g g.G a, powerG g (powerG g g.G mark) b, r⟩
theorem signed_iff {s : Stp} (hv : validG s.g = true) {key m c r : Int} {o : Off} {x μ z a b : Int} (hk : Cg s.g.P key (Ex s.g s.g.G x)) (hm : Cg s.g.P m (Ex s.g s.g.G μ)) (hz : Cg s.g.P o.z (Ex s.g s.g.G z)) (ha : Cg s.g.P o.a (Ex s.g s.g.G a)) (hb : Cg s.g.P o.b (Ex s.g s.g.G b)) :
    signedM s key m c r o = true ↔ s.g.Q ∣ r - (x * c + a) ∧ s.g.Q ∣ μ * r - (z * c + b) := by
  have hg := gv_of hv
  unfold signedM
  rw [Bool.and_eq_true, decide_eq_true_eq, decide_eq_true_eq]
  have t1 : ∀ k y : Int, timesM s k [y] = timesG s.g k y := fun _ _ => rfl
  rw [t1, t1]
  show (powerG s.g s.g.G r = timesG s.g (powerG s.g key c) o.a ∧ _) ↔ _
  rw [eq_iff hv (powerG_cg hg s.g.G r) ((timesG_cg hg _ _).trans (((pow_log hv hk).mul ha).trans (Ex_add hg (El.gen hg) _ _).symm)) (powerG_range hg _ _) (timesG_range hg _ _)]
  rw [eq_iff hv (pow_log hv hm) ((timesG_cg hg _ _).trans (((pow_log hv hz).mul hb).trans (Ex_add hg (El.gen hg) _ _).symm)) (powerG_range hg _ _) (timesG_range hg _ _)]
theorem public_log {g : Grp} {m : Mir} {s : Stp} (h : Md g m s) {x : Int} (hx : 1 ≤ x ∧ x < s.g.Q) : publicM s x = powerG s.g s.g.G x ∧ keyM s (publicM s x) = true := by
  have e : publicM s x = powerG s.g s.g.G x := by
    unfold publicM genM
    rw [if_pos]
    have hn : numsM s 1 [x] = true := by unfold numsM; simp [hx.1, hx.2]
    rw [h.vs, hn]; rfl
  refine ⟨e, ?_⟩
  rw [e]
  unfold keyM elementsM
  have h1 : powerG s.g s.g.G x ≠ 1 := fun h1 => by
    have := (powG_one h.v x).mp h1
    rw [Int.emod_eq_of_lt (by omega) hx.2] at this
    omega
  simp [h1, powG_elem h.v x]
theorem sound_plain {g : Grp} {m : Mir} {s : Stp} (h : Md g m s) {x r first mark z a b : Int} (hx : 1 ≤ x ∧ x < s.g.Q) (hr : 0 ≤ r ∧ r < s.g.Q) :
    validM s (publicM s x) (sndT s.g first mark z a b r) =
      (!decide (innM s (sndT s.g first mark z a b r) = 0) && (decide (addM s.g.Q (mulM s.g.Q (innM s (sndT s.g first mark z a b r)) x) a = r) && decide (mulM s.g.Q (innM s (sndT s.g first mark z a b r)) (subM s.g.Q x z) = subM s.g.Q b a))) := by
  have hv := h.v
  have hg := gv_of hv
  have em := powG_el hv mark
  have hform : formedM s (sndT s.g first mark z a b r) = !decide (mark % s.g.Q = 0) := by
    unfold formedM
    have h1 : elementsM s [(sndT s.g first mark z a b r).mark, (sndT s.g first mark z a b r).first, (sndT s.g first mark z a b r).z, (sndT s.g first mark z a b r).a, (sndT s.g first mark z a b r).b] = true := by
      unfold elementsM sndT
      simp [powG_elem hv, (pow_el hv em z).1, (pow_el hv em b).1]
    have h2 : numsM s 0 [(sndT s.g first mark z a b r).r] = true := by unfold numsM sndT; simp [hr.1, hr.2]
    rw [h.vs, h1, h2]
    show ((true && !decide (powerG s.g s.g.G mark = 1)) && true && true) = !decide (mark % s.g.Q = 0)
    have h3 : decide (powerG s.g s.g.G mark = 1) = decide (mark % s.g.Q = 0) := decide_eq_decide.mpr (powG_one hv mark)
    rw [h3]; simp
  unfold validM innM
  rw [hform]
  by_cases hm : mark % s.g.Q = 0
  · simp [hm]
  · obtain ⟨ep, hk⟩ := public_log h hx
    simp only [hm, hk, decide_false, Bool.not_false, Bool.true_and, if_true]
    generalize innerQ s (sndT s.g first mark z a b r) = n
    by_cases hn : n = 0
    · simp [hn]
    · simp only [hn, decide_false, Bool.not_false, Bool.true_and]
      rw [Bool.eq_iff_iff, ep]
      have cm := powerG_cg hg s.g.G mark
      rw [signed_iff hv (m := (sndT s.g first mark z a b r).mark) (o := ⟨(sndT s.g first mark z a b r).z, (sndT s.g first mark z a b r).a, (sndT s.g first mark z a b r).b⟩) (powerG_cg hg s.g.G x) cm (pow_log hv cm) (powerG_cg hg s.g.G a) (pow_log hv cm)]
      rw [Bool.and_eq_true, decide_eq_true_eq, decide_eq_true_eq]
      rw [← dvd_iff_eq (addM_range _ _ _ hg.okQ) hr, ← dvd_iff_eq (mulM_range _ _ _ hg.okQ) (subM_range _ _ _ hg.okQ)]
      show s.g.Q ∣ r - (x * n + a) ∧ s.g.Q ∣ mark * r - (mark * z * n + mark * b) ↔ _
      obtain ⟨k1, h1⟩ := addM_dvd hg.okQ (a := mulM s.g.Q n x) (b := a)
      obtain ⟨k2, h2⟩ := mulM_dvd hg.okQ (a := n) (b := x)
      obtain ⟨k3, h3⟩ := mulM_dvd hg.okQ (a := n) (b := subM s.g.Q x z)
      obtain ⟨k4, h4⟩ := subM_dvd hg.okQ (a := x) (b := z)
      obtain ⟨k5, h5⟩ := subM_dvd hg.okQ (a := b) (b := a)
      generalize addM s.g.Q (mulM s.g.Q n x) a = A at *
      generalize mulM s.g.Q n x = B at *
      generalize mulM s.g.Q n (subM s.g.Q x z) = C at *
      generalize subM s.g.Q x z = D at *
      generalize subM s.g.Q b a = F at *
      constructor
      · rintro ⟨⟨k, hk⟩, hd⟩
        have h6 : s.g.Q ∣ mark * r - mark * (z * n + b) := by
          have e : mark * (z * n + b) = mark * z * n + mark * b := by grind
          rw [e]; exact hd
        obtain ⟨l, hl⟩ := cancel_Q hv hm h6
        refine ⟨⟨k1 + k2 - k, by grind⟩, ⟨k3 + n * k4 - k5 + l - k, ?_⟩⟩
        have e0 : n * D = n * (x - z) + s.g.Q * (n * k4) := by
          have : D = x - z + s.g.Q * k4 := by omega
          rw [this]; grind
        have e1 : n * (x - z) - b + a = s.g.Q * (l - k) := by grind
        have e2 : C - F = n * (x - z) - b + a + s.g.Q * (n * k4 + k3 - k5) := by grind
        rw [e2, e1]; grind
      · rintro ⟨⟨k, hk⟩, ⟨l, hl⟩⟩
        have e1 : r = n * x + a + s.g.Q * (k1 + k2 - k) := by grind
        have e2 : n * x - n * z - b + a = s.g.Q * (l - k3 - n * k4 + k5) := by
          have : n * D = n * (x - z) + s.g.Q * (n * k4) := by
            have : D = x - z + s.g.Q * k4 := by omega
            rw [this]; grind
          grind
        have e3 : r - (z * n + b) = s.g.Q * (l - k3 - n * k4 + k5 + (k1 + k2 - k)) := by grind
        refine ⟨⟨k1 + k2 - k, by grind⟩, ⟨mark * (l - k3 - n * k4 + k5 + (k1 + k2 - k)), ?_⟩⟩
        have e4 : mark * r - (mark * z * n + mark * b) = mark * (r - (z * n + b)) := by grind
        rw [e4, e3]; grind
end TpA
namespace TpA
open FdSpec FdPoly GrLaw GrPr TkSpec
theorem nums_one {s : Stp} {m x : Int} : numsM s m [x] = true ↔ m ≤ x ∧ x < s.g.Q := by unfold numsM; simp
theorem elem_log {g : Grp} (hv : validG g = true) {x a : Int} (hx : Cg g.P x (Ex g g.G a)) (r : 0 ≤ x ∧ x < g.P) : elemG g x = true :=
  el_elem hv (((El.gen (gv_of hv)).ex a).cg hx) r.1 r.2
theorem one_iff {g : Grp} (hv : validG g = true) {x a : Int} (hx : Cg g.P x (Ex g g.G a)) (r : 0 ≤ x ∧ x < g.P) : x = 1 ↔ a % g.Q = 0 := by
  have hg := gv_of hv
  have h1 : Cg g.P 1 (Ex g g.G 0) := by rw [Ex_zero]; exact Cg.refl _ _
  rw [eq_iff hv hx h1 r ⟨by omega, by have := hg.q0; have := hg.p; omega⟩, Int.sub_zero]
  exact ⟨Int.emod_eq_zero_of_dvd, Int.dvd_of_emod_eq_zero⟩
theorem mul_ne {g : Grp} (hv : validG g = true) {a b : Int} (ha : a % g.Q ≠ 0) (hb : b % g.Q ≠ 0) : (a * b) % g.Q ≠ 0 := fun h => (zero_Q hv h).elim ha hb
theorem small_ne {q a : Int} (h : 1 ≤ a ∧ a < q) : a % q ≠ 0 := by rw [Int.emod_eq_of_lt (by omega) h.2]; omega
theorem timesM_one (s : Stp) (a b : Int) : timesM s a [b] = timesG s.g a b := rfl
theorem times_log {g : Grp} (hv : validG g = true) {x y a b : Int} (hx : Cg g.P x (Ex g g.G a)) (hy : Cg g.P y (Ex g g.G b)) : Cg g.P (timesG g x y) (Ex g g.G (a + b)) :=
  (timesG_cg (gv_of hv) x y).trans ((hx.mul hy).trans (Ex_add (gv_of hv) (El.gen (gv_of hv)) a b).symm)
theorem log_mod {g : Grp} (hv : validG g = true) {x a b : Int} (hx : Cg g.P x (Ex g g.G a)) (h : g.Q ∣ a - b) : Cg g.P x (Ex g g.G b) := by rwa [Ex_eq hv h] at hx
structure Hon (g : Grp) (m : Mir) (s : Stp) (attrs : List Int) (b : Bld) (x w : Int) : Prop where
  md : Md g m s
  us : (usableM s attrs).2 = true
  bl : blindsM s b = true
  hx : 1 ≤ x ∧ x < s.g.Q
  hw : 0 ≤ w ∧ w < s.g.Q
section
variable {g : Grp} {m : Mir} {s : Stp} {attrs : List Int} {b : Bld} {x w : Int}
theorem Md.us_facts (h : Md g m s) (hu : (usableM s attrs).2 = true) : fineA s attrs = true ∧ logM s m attrs % s.g.Q ≠ 0 ∧ (usableM s attrs).1 = powerG s.g s.g.G (logM s m attrs) := by
  have h1 := h.usable attrs
  rw [hu] at h1
  have h2 := Bool.and_eq_true _ _ |>.mp h1.symm
  have h3 := h.log_range attrs
  refine ⟨h2.1, ?_, ?_⟩
  · rw [Int.emod_eq_of_lt h3.1 h3.2]
    simpa using h2.2
  · unfold usableM
    rw [(h.marks attrs).2 h2.1]
theorem blinds_iff : blindsM s b = true ↔ (1 ≤ b.s ∧ b.s < s.g.Q) ∧ (1 ≤ b.u ∧ b.u < s.g.Q) ∧ (0 ≤ b.v ∧ b.v < s.g.Q) ∧ b.ys.length = s.bases.length ∧ numsM s 0 b.ys = true := by
  unfold blindsM numsM
  simp
  constructor
  · rintro ⟨⟨⟨⟨h1, h2⟩, h3⟩, h4⟩, h5⟩; exact ⟨h1, h2, h3, h4, h5⟩
  · rintro ⟨h1, h2, h3, h4, h5⟩; exact ⟨⟨⟨⟨h1, h2⟩, h3⟩, h4⟩, h5⟩
variable (h : Hon g m s attrs b x w)
include h
theorem Hon.offer : proposeM s x attrs w = (⟨powerG s.g (usableM s attrs).1 x, powerG s.g s.g.G w, powerG s.g (usableM s attrs).1 w⟩, 0) := by
  unfold proposeM genM
  rw [h.us, nums_one.mpr h.hx, nums_one.mpr h.hw]; rfl
theorem Hon.ask_logs {T : Tkt} (hT : T = askTkt s attrs (proposeM s x attrs w).1 b) :
    let A := logM s m attrs
    Cg s.g.P T.mark (Ex s.g s.g.G (A * b.s)) ∧ Cg s.g.P T.first (Ex s.g s.g.G (dot m.bases b.ys)) ∧ Cg s.g.P T.z (Ex s.g s.g.G (A * x * b.s)) ∧ Cg s.g.P T.a (Ex s.g s.g.G (w * b.u + b.v)) ∧ Cg s.g.P T.b (Ex s.g s.g.G (A * w * (b.s * b.u) + A * b.s * b.v)) ∧
    (0 ≤ T.mark ∧ T.mark < s.g.P) ∧ (0 ≤ T.first ∧ T.first < s.g.P) ∧ (0 ≤ T.z ∧ T.z < s.g.P) ∧ (0 ≤ T.a ∧ T.a < s.g.P) ∧ (0 ≤ T.b ∧ T.b < s.g.P) := by
  have hv := h.md.v
  have hg := gv_of hv
  obtain ⟨_, _, eM⟩ := h.md.us_facts h.us
  have hM : Cg s.g.P (usableM s attrs).1 (Ex s.g s.g.G (logM s m attrs)) := by rw [eM]; exact powerG_cg hg _ _
  rw [h.offer] at hT
  subst hT
  obtain ⟨_, b2, _, b4, _⟩ := blinds_iff.mp h.bl
  have hp := prodG_log hv h.md.log (es := b.ys) b4.symm
  have hmark := pow_log hv (k := b.s) hM
  unfold askTkt
  simp only [timesM_one]
  refine ⟨hmark, hp.2.1, pow_log hv (pow_log hv hM), times_log hv (pow_log hv (powerG_cg hg s.g.G w)) (powerG_cg hg s.g.G b.v), ?_, powerG_range hg _ _, hp.2.2, powerG_range hg _ _, timesG_range hg _ _, timesG_range hg _ _⟩
  refine log_mod hv (times_log hv (pow_log hv (pow_log hv hM)) (pow_log hv hmark)) ?_
  obtain ⟨k, hk⟩ := mulM_dvd hg.okQ (a := b.s) (b := b.u)
  have e : mulQ s b.s [b.u] = mulM s.g.Q b.s b.u := rfl
  rw [e]
  exact ⟨logM s m attrs * w * k, by grind⟩
theorem Hon.fine : askFine s (publicM s x) attrs (proposeM s x attrs w).1 b = true := by
  have hv := h.md.v
  have hg := gv_of hv
  obtain ⟨_, hA, eM⟩ := h.md.us_facts h.us
  have hM : Cg s.g.P (usableM s attrs).1 (Ex s.g s.g.G (logM s m attrs)) := by rw [eM]; exact powerG_cg hg _ _
  unfold askFine
  rw [h.us, (public_log h.md h.hx).2, h.offer, h.bl]
  have h1 : elemG s.g (powerG s.g (usableM s attrs).1 x) = true := elem_log hv (pow_log hv hM) (powerG_range hg _ _)
  have h2 : elemG s.g (powerG s.g (usableM s attrs).1 w) = true := elem_log hv (pow_log hv hM) (powerG_range hg _ _)
  have h3 : powerG s.g (usableM s attrs).1 x ≠ 1 := fun h3 => mul_ne hv hA (small_ne h.hx) ((one_iff hv (pow_log hv hM) (powerG_range hg _ _)).mp h3)
  unfold elementsM
  simp [h1, h2, h3, powG_elem hv w]
theorem Hon.err : askErr s (publicM s x) attrs (proposeM s x attrs w).1 b = if innerQ s (askTkt s attrs (proposeM s x attrs w).1 b) = 0 then 7 else 0 := by
  unfold askErr; rw [if_pos h.fine]
theorem Hon.chal : s.g.Q ∣ askC s attrs (proposeM s x attrs w).1 b * b.u - innerQ s (askTkt s attrs (proposeM s x attrs w).1 b) ∧ 0 ≤ askC s attrs (proposeM s x attrs w).1 b ∧ askC s attrs (proposeM s x attrs w).1 b < s.g.Q := by
  obtain ⟨_, b2, _⟩ := blinds_iff.mp h.bl
  exact ⟨overQ_dvd h.md.v (small_ne b2), overQ_range h.md.v _ _⟩
theorem Hon.grant {c : Int} (hc : 0 ≤ c ∧ c < s.g.Q) : s.g.Q ∣ grantM s x w c - (c * x + w) ∧ 0 ≤ grantM s x w c ∧ grantM s x w c < s.g.Q := by
  have hg := gv_of h.md.v
  have e : grantM s x w c = addM s.g.Q (mulM s.g.Q c x) w := by
    unfold grantM
    have : numsM s 0 [w, c] = true := by unfold numsM; simp [h.hw.1, h.hw.2, hc.1, hc.2]
    rw [h.md.vs, nums_one.mpr h.hx, this]; rfl
  rw [e]
  obtain ⟨k, hk⟩ := addM_dvd hg.okQ (a := mulM s.g.Q c x) (b := w)
  obtain ⟨l, hl⟩ := mulM_dvd hg.okQ (a := c) (b := x)
  exact ⟨⟨k + l, by grind⟩, addM_range _ _ _ hg.okQ⟩
theorem Hon.signed {r : Int} (hr : 0 ≤ r ∧ r < s.g.Q) {c : Int} (hc : 0 ≤ c ∧ c < s.g.Q) : signedM s (publicM s x) (usableM s attrs).1 c r (proposeM s x attrs w).1 = true ↔ r = grantM s x w c := by
  have hv := h.md.v
  have hg := gv_of hv
  obtain ⟨_, hA, eM⟩ := h.md.us_facts h.us
  have hM : Cg s.g.P (usableM s attrs).1 (Ex s.g s.g.G (logM s m attrs)) := by rw [eM]; exact powerG_cg hg _ _
  have hk : Cg s.g.P (publicM s x) (Ex s.g s.g.G x) := by rw [(public_log h.md h.hx).1]; exact powerG_cg hg _ _
  have e := h.offer
  rw [signed_iff (o := (proposeM s x attrs w).1) (z := logM s m attrs * x) (a := w) (b := logM s m attrs * w) hv hk hM (by rw [e]; exact pow_log hv hM) (by rw [e]; exact powerG_cg hg _ _) (by rw [e]; exact pow_log hv hM)]
  obtain ⟨⟨k, hk⟩, hgr⟩ := h.grant hc
  rw [← dvd_iff_eq hr hgr]
  constructor
  · rintro ⟨⟨l, hl⟩, _⟩
    exact ⟨l - k, by grind⟩
  · rintro ⟨l, hl⟩
    refine ⟨⟨l + k, by grind⟩, ⟨logM s m attrs * (l + k), ?_⟩⟩
    have e1 : r = c * x + w + s.g.Q * (l + k) := by grind
    rw [e1]; grind
end
end TpA
namespace TpA
open FdSpec FdPoly GrLaw GrPr TkSpec
section
variable {g : Grp} {m : Mir} {s : Stp} {attrs : List Int} {b : Bld} {x w : Int} (h : Hon g m s attrs b x w)
include h
theorem Hon.finish (hi : innerQ s (askTkt s attrs (proposeM s x attrs w).1 b) ≠ 0) (r : Int) : finishM s (publicM s x) attrs (proposeM s x attrs w).1 b r =
    if 0 ≤ r ∧ r < s.g.Q then (if r = grantM s x w (askC s attrs (proposeM s x attrs w).1 b) then ({ askTkt s attrs (proposeM s x attrs w).1 b with r := plusQ s (mulQ s r [b.u]) b.v }, 0) else (zT, 14)) else (zT, 1) := by
  unfold finishM
  rw [h.err, if_neg hi, if_neg (by simp)]
  by_cases hr : 0 ≤ r ∧ r < s.g.Q
  · rw [if_pos hr, nums_one.mpr hr]
    have h1 := h.signed hr h.chal.2
    by_cases e : r = grantM s x w (askC s attrs (proposeM s x attrs w).1 b)
    · rw [if_pos e, h1.mpr e]; rfl
    · rw [if_neg e]
      have : signedM s (publicM s x) (usableM s attrs).1 (askC s attrs (proposeM s x attrs w).1 b) r (proposeM s x attrs w).1 = false := by
        cases h2 : signedM s (publicM s x) (usableM s attrs).1 (askC s attrs (proposeM s x attrs w).1 b) r (proposeM s x attrs w).1 with
        | false => rfl
        | true => exact absurd (h1.mp h2) e
      rw [this]; rfl
  · rw [if_neg hr]
    have : numsM s 0 [r] = false := by
      cases h2 : numsM s 0 [r] with
      | false => rfl
      | true => exact absurd (nums_one.mp h2) hr
    rw [this]; rfl
theorem Hon.r_range (r : Int) : 0 ≤ plusQ s (mulQ s r [b.u]) b.v ∧ plusQ s (mulQ s r [b.u]) b.v < s.g.Q := addM_range _ _ _ (gv_of h.md.v).okQ
theorem Hon.formed {T : Tkt} (hT : T = askTkt s attrs (proposeM s x attrs w).1 b) {r : Int} (hr : 0 ≤ r ∧ r < s.g.Q) : formedM s { T with r := r } = true := by
  have hv := h.md.v
  obtain ⟨_, hA, _⟩ := h.md.us_facts h.us
  obtain ⟨b1, _⟩ := blinds_iff.mp h.bl
  obtain ⟨l1, l2, l3, l4, l5, r1, r2, r3, r4, r5⟩ := h.ask_logs hT
  have hm : T.mark ≠ 1 := fun h3 => mul_ne hv hA (small_ne b1) ((one_iff hv l1 r1).mp h3)
  unfold formedM elementsM
  rw [h.md.vs, nums_one.mpr hr]
  simp [hm, elem_log hv l1 r1, elem_log hv l2 r2, elem_log hv l3 r3, elem_log hv l4 r4, elem_log hv l5 r5]
theorem Hon.valid (hi : innerQ s (askTkt s attrs (proposeM s x attrs w).1 b) ≠ 0) {r : Int} (hr : r = grantM s x w (askC s attrs (proposeM s x attrs w).1 b)) :
    validM s (publicM s x) { askTkt s attrs (proposeM s x attrs w).1 b with r := plusQ s (mulQ s r [b.u]) b.v } = true := by
  have hv := h.md.v
  have hg := gv_of hv
  have hrr := h.r_range r
  have hf := h.formed rfl hrr
  obtain ⟨l1, _, l3, l4, l5, _⟩ := h.ask_logs rfl
  obtain ⟨⟨k1, h1⟩, hc⟩ := h.chal
  obtain ⟨⟨k2, h2⟩, _⟩ := h.grant hc
  have hk : Cg s.g.P (publicM s x) (Ex s.g s.g.G x) := by rw [(public_log h.md h.hx).1]; exact powerG_cg hg _ _
  unfold validM
  rw [hf, (public_log h.md h.hx).2]
  have ei : innerQ s { askTkt s attrs (proposeM s x attrs w).1 b with r := plusQ s (mulQ s r [b.u]) b.v } = innerQ s (askTkt s attrs (proposeM s x attrs w).1 b) := rfl
  rw [ei]
  generalize innerQ s (askTkt s attrs (proposeM s x attrs w).1 b) = c at *
  generalize askC s attrs (proposeM s x attrs w).1 b = n at *
  simp only [hi, decide_false, Bool.not_false, Bool.and_self, Bool.true_and]
  rw [signed_iff (o := ⟨(askTkt s attrs (proposeM s x attrs w).1 b).z, (askTkt s attrs (proposeM s x attrs w).1 b).a, (askTkt s attrs (proposeM s x attrs w).1 b).b⟩) hv hk l1 l3 l4 l5]
  rw [← hr] at h2
  obtain ⟨k3, h3⟩ := addM_dvd hg.okQ (a := mulM s.g.Q r b.u) (b := b.v)
  obtain ⟨k4, h4⟩ := mulM_dvd hg.okQ (a := r) (b := b.u)
  show s.g.Q ∣ addM s.g.Q (mulM s.g.Q r b.u) b.v - _ ∧ s.g.Q ∣ logM s m attrs * b.s * addM s.g.Q (mulM s.g.Q r b.u) b.v - _
  generalize addM s.g.Q (mulM s.g.Q r b.u) b.v = R at *
  generalize mulM s.g.Q r b.u = R1 at *
  have e1 : r = n * x + w + s.g.Q * k2 := by omega
  have e2 : R = r * b.u + b.v + s.g.Q * (k3 + k4) := by rw [Int.mul_add]; omega
  have e3 : n * b.u = c + s.g.Q * k1 := by omega
  have e4 : R = x * c + (w * b.u + b.v) + s.g.Q * (k3 + k4 + k2 * b.u + x * k1) := by
    have : r * b.u = x * (n * b.u) + w * b.u + s.g.Q * (k2 * b.u) := by rw [e1]; grind
    rw [e2, this, e3]; grind
  refine ⟨⟨k3 + k4 + k2 * b.u + x * k1, by rw [e4]; grind⟩, ⟨logM s m attrs * b.s * (k3 + k4 + k2 * b.u + x * k1), ?_⟩⟩
  rw [e4]; grind
theorem Hon.use_ok {d : Int} (hd : 1 ≤ d ∧ d < s.g.Q) : useM s attrs b d = (⟨d, ((expsM attrs).zip b.ys).map fun p => plusQ s p.2 (mulQ s d [b.s, p.1])⟩, true) := by
  unfold useM
  rw [h.us, h.bl, nums_one.mpr hd]; rfl
theorem Hon.use_no {d : Int} (hd : ¬ (1 ≤ d ∧ d < s.g.Q)) : (useM s attrs b d).2 = false := by
  unfold useM
  have : numsM s 1 [d] = false := by
    cases h2 : numsM s 1 [d] with
    | false => rfl
    | true => exact absurd (nums_one.mp h2) hd
  rw [this]; simp
theorem Hon.lens : (expsM attrs).length = s.bases.length ∧ b.ys.length = s.bases.length := by
  obtain ⟨hf, _⟩ := h.md.us_facts h.us
  obtain ⟨_, _, _, b4, _⟩ := blinds_iff.mp h.bl
  refine ⟨?_, b4⟩
  unfold fineA at hf
  simp at hf
  show attrs.length + 1 = _
  omega
theorem Hon.ans {d : Int} : s.g.Q ∣ dot m.bases (((expsM attrs).zip b.ys).map fun p => plusQ s p.2 (mulQ s d [b.s, p.1])) - (dot m.bases b.ys + d * b.s * dot m.bases (expsM attrs)) := by
  have hg := gv_of h.md.v
  obtain ⟨h1, h2⟩ := h.lens
  have hl := h.md.len
  have key : ∀ bs es ys : List Int, es.length = bs.length → ys.length = bs.length → s.g.Q ∣ dot bs ((es.zip ys).map fun p => plusQ s p.2 (mulQ s d [b.s, p.1])) - (dot bs ys + d * b.s * dot bs es) := by
    intro bs
    induction bs with
    | nil => intro es ys _ _; simp [dot]
    | cons β bs ih =>
      intro es ys he hy
      cases es with
      | nil => simp at he
      | cons e es =>
        cases ys with
        | nil => simp at hy
        | cons y ys =>
          obtain ⟨k, hk⟩ := ih es ys (by simpa using he) (by simpa using hy)
          rw [List.zip_cons_cons, List.map_cons, dot, dot, dot]
          have e0 : plusQ s y (mulQ s d [b.s, e]) = addM s.g.Q y (mulM s.g.Q (mulM s.g.Q d b.s) e) := rfl
          rw [e0]
          obtain ⟨k1, h1⟩ := addM_dvd hg.okQ (a := y) (b := mulM s.g.Q (mulM s.g.Q d b.s) e)
          obtain ⟨k2, h2⟩ := mulM_dvd hg.okQ (a := mulM s.g.Q d b.s) (b := e)
          obtain ⟨k3, h3⟩ := mulM_dvd hg.okQ (a := d) (b := b.s)
          generalize addM s.g.Q y (mulM s.g.Q (mulM s.g.Q d b.s) e) = Y at *
          generalize mulM s.g.Q (mulM s.g.Q d b.s) e = Z at *
          generalize mulM s.g.Q d b.s = W at *
          have e1 : W = d * b.s + s.g.Q * k3 := by grind
          have e2 : Z = d * b.s * e + s.g.Q * (k3 * e + k2) := by rw [e1] at h2; grind
          have e3 : Y = y + d * b.s * e + s.g.Q * (k1 + k3 * e + k2) := by grind
          refine ⟨β * (k1 + k3 * e + k2) + k, ?_⟩
          rw [e3]; grind
  exact key _ _ _ (by omega) (by omega)
theorem Hon.accept {d : Int} (hd : 1 ≤ d ∧ d < s.g.Q) {r : Int} (hr : 0 ≤ r ∧ r < s.g.Q) : acceptsM s { askTkt s attrs (proposeM s x attrs w).1 b with r := r } (useM s attrs b d).1 = true := by
  have hv := h.md.v
  have hg := gv_of hv
  obtain ⟨h1, h2⟩ := h.lens
  obtain ⟨l1, l2, _⟩ := h.ask_logs rfl
  rw [h.use_ok hd]
  unfold acceptsM
  have hl : (((expsM attrs).zip b.ys).map fun p => plusQ s p.2 (mulQ s d [b.s, p.1])).length = s.bases.length := by rw [List.length_map, List.length_zip]; omega
  have hn : numsM s 0 (((expsM attrs).zip b.ys).map fun p => plusQ s p.2 (mulQ s d [b.s, p.1])) = true := by
    refine List.all_eq_true.mpr fun y hy => ?_
    obtain ⟨p, _, rfl⟩ := List.mem_map.mp hy
    have := addM_range s.g.Q p.2 (mulQ s d [b.s, p.1]) hg.okQ
    simp; exact this
  have hnd := nums_one.mpr hd
  simp only [h.formed rfl hr, hnd, hl, hn, decide_true, Bool.and_self, if_true]
  rw [decide_eq_true_eq, timesM_one]
  have hp := prodG_log hv h.md.log (es := ((expsM attrs).zip b.ys).map fun p => plusQ s p.2 (mulQ s d [b.s, p.1])) hl.symm
  rw [eq_iff hv hp.2.1 (times_log hv (pow_log hv l1) l2) hp.2.2 (timesG_range hg _ _)]
  obtain ⟨k, hk⟩ := h.ans (d := d)
  obtain ⟨l, hl⟩ := h.md.log_dvd attrs
  generalize dot m.bases (((expsM attrs).zip b.ys).map fun p => plusQ s p.2 (mulQ s d [b.s, p.1])) = X at *
  generalize dot m.bases b.ys = Y at *
  generalize dot m.bases (expsM attrs) = Z at *
  generalize logM s m attrs = A at *
  have e1 : A = Z + s.g.Q * l := by grind
  refine ⟨k - l * b.s * d, ?_⟩
  rw [e1]; grind
end
end TpA
namespace TpA
open FdSpec FdPoly GrLaw GrPr TkSpec
section
variable {g : Grp} {m : Mir} {s : Stp} {attrs : List Int} {b : Bld} {x w : Int} (h : Hon g m s attrs b x w)
include h
theorem Hon.ans_at {d : Int} {i : Nat} (hi : i < s.bases.length) : s.g.Q ∣ (((expsM attrs).zip b.ys).map fun p => plusQ s p.2 (mulQ s d [b.s, p.1])).getD i 0 - (b.ys.getD i 0 + d * b.s * (expsM attrs).getD i 0) := by
  have hg := gv_of h.md.v
  obtain ⟨h1, h2⟩ := h.lens
  rw [zip_map_getD (fun e y => plusQ s y (mulQ s d [b.s, e])) (by omega) (by omega)]
  generalize (expsM attrs).getD i 0 = e
  generalize b.ys.getD i 0 = y
  have e0 : plusQ s y (mulQ s d [b.s, e]) = addM s.g.Q y (mulM s.g.Q (mulM s.g.Q d b.s) e) := rfl
  rw [e0]
  obtain ⟨k1, h1⟩ := addM_dvd hg.okQ (a := y) (b := mulM s.g.Q (mulM s.g.Q d b.s) e)
  obtain ⟨k2, h2⟩ := mulM_dvd hg.okQ (a := mulM s.g.Q d b.s) (b := e)
  obtain ⟨k3, h3⟩ := mulM_dvd hg.okQ (a := d) (b := b.s)
  generalize addM s.g.Q y (mulM s.g.Q (mulM s.g.Q d b.s) e) = Y at *
  generalize mulM s.g.Q (mulM s.g.Q d b.s) e = Z at *
  generalize mulM s.g.Q d b.s = W at *
  have e1 : W = d * b.s + s.g.Q * k3 := by omega
  have e2 : Z = d * b.s * e + s.g.Q * (k3 * e + k2) := by rw [e1] at h2; grind
  exact ⟨k1 + (k3 * e + k2), by grind⟩
theorem Hon.attrs_range : numsM s 0 attrs = true := by
  obtain ⟨hf, _⟩ := h.md.us_facts h.us
  unfold fineA at hf
  simp only [Bool.and_eq_true] at hf
  exact hf.1.2
theorem Hon.gaps {d e : Int} (hd : 1 ≤ d ∧ d < s.g.Q) (he : 1 ≤ e ∧ e < s.g.Q) (hne : d ≠ e) {r : Int} (hr : 0 ≤ r ∧ r < s.g.Q) {T : Tkt} (hT : T = { askTkt s attrs (proposeM s x attrs w).1 b with r := r }) :
    (gapsM s T (useM s attrs b d).1 (useM s attrs b e).1).2 = true ∧ (gapsM s T (useM s attrs b d).1 (useM s attrs b e).1).1.length = s.bases.length ∧ (∀ i, i < s.bases.length → (0 ≤ (gapsM s T (useM s attrs b d).1 (useM s attrs b e).1).1.getD i 0 ∧ (gapsM s T (useM s attrs b d).1 (useM s attrs b e).1).1.getD i 0 < s.g.Q) ∧ s.g.Q ∣ (gapsM s T (useM s attrs b d).1 (useM s attrs b e).1).1.getD i 0 - (d - e) * b.s * (expsM attrs).getD i 0) ∧ ((d - e) * b.s) % s.g.Q ≠ 0 := by
  have hv := h.md.v
  have h2 := (valid_facts h.md.vs).2.2
  obtain ⟨h1, hy⟩ := h.lens
  obtain ⟨b1, _⟩ := blinds_iff.mp h.bl
  have ha1 := h.accept hd hr
  have ha2 := h.accept he hr
  rw [← hT] at ha1 ha2
  have hdare1 : (useM s attrs b d).1.dare = d := by rw [h.use_ok hd]
  have hdare2 : (useM s attrs b e).1.dare = e := by rw [h.use_ok he]
  have eG : gapsM s T (useM s attrs b d).1 (useM s attrs b e).1 = (((useM s attrs b d).1.answers.zip (useM s attrs b e).1.answers).map fun p => lessQ s p.1 p.2, !decide ((((useM s attrs b d).1.answers.zip (useM s attrs b e).1.answers).map fun p => lessQ s p.1 p.2).headD 0 = 0)) := by
    unfold gapsM
    rw [hdare1, hdare2, ha1, ha2]
    simp [hne]
  have hnz : ((d - e) * b.s) % s.g.Q ≠ 0 := by
    refine mul_ne hv (fun h0 => ?_) (small_ne b1)
    exact hne (range_eq (Int.dvd_of_emod_eq_zero h0) ⟨by omega, hd.2⟩ ⟨by omega, he.2⟩)
  have la : ∀ c, (1 ≤ c ∧ c < s.g.Q) → (useM s attrs b c).1.answers.length = s.bases.length := fun c hc => by rw [h.use_ok hc]; show (((expsM attrs).zip b.ys).map _).length = _; rw [List.length_map, List.length_zip]; omega
  have hGi : ∀ i, i < s.bases.length → s.g.Q ∣ (((useM s attrs b d).1.answers.zip (useM s attrs b e).1.answers).map fun p => lessQ s p.1 p.2).getD i 0 - (d - e) * b.s * (expsM attrs).getD i 0 := by
    intro i hi
    rw [zip_map_getD (lessQ s) (by rw [la d hd]; omega) (by rw [la e he]; omega)]
    rw [h.use_ok hd, h.use_ok he]
    obtain ⟨k1, h1⟩ := h.ans_at (d := d) hi
    obtain ⟨k2, h2⟩ := h.ans_at (d := e) hi
    obtain ⟨k3, h3⟩ := lessQ_dvd hv ((((expsM attrs).zip b.ys).map fun p => plusQ s p.2 (mulQ s d [b.s, p.1])).getD i 0) ((((expsM attrs).zip b.ys).map fun p => plusQ s p.2 (mulQ s e [b.s, p.1])).getD i 0)
    exact ⟨k1 - k2 + k3, by grind⟩
  have hlen : (((useM s attrs b d).1.answers.zip (useM s attrs b e).1.answers).map fun p => lessQ s p.1 p.2).length = s.bases.length := by rw [List.length_map, List.length_zip, la d hd, la e he, Nat.min_self]
  rw [eG]
  refine ⟨?_, hlen, fun i hi => ⟨?_, hGi i hi⟩, hnz⟩
  · have h0 := hGi 0 (by omega)
    have hh : (((useM s attrs b d).1.answers.zip (useM s attrs b e).1.answers).map fun p => lessQ s p.1 p.2).headD 0 = (((useM s attrs b d).1.answers.zip (useM s attrs b e).1.answers).map fun p => lessQ s p.1 p.2).getD 0 0 := by
      cases (((useM s attrs b d).1.answers.zip (useM s attrs b e).1.answers).map fun p => lessQ s p.1 p.2) <;> rfl
    show (!decide (_ = 0)) = true
    rw [hh, Bool.not_eq_true', decide_eq_false_iff_not]
    intro hz
    rw [hz] at h0
    have e1 : (expsM attrs).getD 0 0 = 1 := rfl
    rw [e1, Int.mul_one] at h0
    obtain ⟨k, hk⟩ := h0
    exact hnz (Int.emod_eq_zero_of_dvd ⟨-k, by grind⟩)
  · show 0 ≤ (((useM s attrs b d).1.answers.zip (useM s attrs b e).1.answers).map fun p => lessQ s p.1 p.2).getD i 0 ∧ (((useM s attrs b d).1.answers.zip (useM s attrs b e).1.answers).map fun p => lessQ s p.1 p.2).getD i 0 < s.g.Q
    rw [zip_map_getD (lessQ s) (by rw [la d hd]; omega) (by rw [la e he]; omega)]
    exact lessQ_range hv _ _
end
end TpA
namespace TpA
open FdSpec FdPoly GrLaw GrPr TkSpec
theorem list_eq {a c : List Int} (hl : a.length = c.length) (h : ∀ i, i < c.length → a.getD i 0 = c.getD i 0) : a = c := by
  refine List.ext_getElem hl fun i h1 h2 => ?_
  have := h i h2
  rwa [List.getD_eq_getElem?_getD, List.getD_eq_getElem?_getD, List.getElem?_eq_getElem h1, List.getElem?_eq_getElem h2] at this
theorem getD_tail {a : List Int} (i : Nat) : a.tail.getD i 0 = a.getD (i + 1) 0 := by cases a <;> rfl
theorem getD_map {a : List Int} (f : Int → Int) {i : Nat} (h : i < a.length) : (a.map f).getD i 0 = f (a.getD i 0) := by
  rw [List.getD_eq_getElem?_getD, List.getD_eq_getElem?_getD, List.getElem?_map, List.getElem?_eq_getElem h]; rfl
theorem headD_getD (a : List Int) : a.headD 0 = a.getD 0 0 := by cases a <;> rfl
section
variable {g : Grp} {m : Mir} {s : Stp} {attrs : List Int} {b : Bld} {x w : Int} (h : Hon g m s attrs b x w)
include h
theorem Hon.len_attrs : attrs.length + 1 = s.bases.length := by have := h.lens.1; exact this
theorem Hon.trace {d e : Int} (hd : 1 ≤ d ∧ d < s.g.Q) (he : 1 ≤ e ∧ e < s.g.Q) (hne : d ≠ e) {r : Int} (hr : 0 ≤ r ∧ r < s.g.Q) {T : Tkt} (hT : T = { askTkt s attrs (proposeM s x attrs w).1 b with r := r }) :
    traceM s T (useM s attrs b d).1 (useM s attrs b e).1 = (attrs, true) := by
  have hv := h.md.v
  have h2 := (valid_facts h.md.vs).2.2
  have hla := h.len_attrs
  obtain ⟨g2, gl, gi, hnz⟩ := h.gaps hd he hne hr hT
  unfold traceM
  rw [if_pos g2]
  generalize (gapsM s T (useM s attrs b d).1 (useM s attrs b e).1).1 = G at *
  rw [headD_getD]
  obtain ⟨r0, k0, h0⟩ := gi 0 (by omega)
  have e1 : (expsM attrs).getD 0 0 = 1 := rfl
  rw [e1, Int.mul_one] at h0
  have hg0 : G.getD 0 0 % s.g.Q ≠ 0 := fun hz => hnz (by
    obtain ⟨k, hk⟩ := Int.dvd_of_emod_eq_zero hz
    exact Int.emod_eq_zero_of_dvd ⟨k - k0, by grind⟩)
  have key : (G.tail.map fun n => overQ s n (G.getD 0 0)) = attrs := by
    refine list_eq (by rw [List.length_map, List.length_tail]; omega) fun i hi => ?_
    rw [getD_map _ (by rw [List.length_tail]; omega), getD_tail]
    obtain ⟨_, k1, h1⟩ := gi (i + 1) (by omega)
    have e2 : (expsM attrs).getD (i + 1) 0 = attrs.getD i 0 := rfl
    rw [e2] at h1
    refine range_eq ?_ (overQ_range hv _ _) (nums_mem h.attrs_range _ (getD_mem hi))
    obtain ⟨k2, h2⟩ := overQ_dvd hv (a := G.getD (i + 1) 0) hg0
    refine cancel_Q hv hg0 ⟨k2 + k1 - k0 * attrs.getD i 0, ?_⟩
    grind
  rw [key]
theorem Hon.guilty {d e : Int} (hd : 1 ≤ d ∧ d < s.g.Q) (he : 1 ≤ e ∧ e < s.g.Q) (hne : d ≠ e) {r : Int} (hr : 0 ≤ r ∧ r < s.g.Q) {T : Tkt} (hT : T = { askTkt s attrs (proposeM s x attrs w).1 b with r := r }) (l : List Int) :
    guiltyM s T (useM s attrs b d).1 (useM s attrs b e).1 l = decide (l = attrs) := by
  have hv := h.md.v
  have hg := gv_of hv
  have h2 := (valid_facts h.md.vs).2.2
  have hla := h.len_attrs
  obtain ⟨g2, gl, gi, hnz⟩ := h.gaps hd he hne hr hT
  unfold guiltyM
  rw [g2]
  generalize (gapsM s T (useM s attrs b d).1 (useM s attrs b e).1).1 = G at *
  rw [headD_getD]
  obtain ⟨r0, k0, h0⟩ := gi 0 (by omega)
  have e1 : (expsM attrs).getD 0 0 = 1 := rfl
  rw [e1, Int.mul_one] at h0
  have hg0 : G.getD 0 0 % s.g.Q ≠ 0 := fun hz => hnz (by
    obtain ⟨k, hk⟩ := Int.dvd_of_emod_eq_zero hz
    exact Int.emod_eq_zero_of_dvd ⟨k - k0, by grind⟩)
  have hall : ∀ i, i < attrs.length → (mulM s.g.Q (attrs.getD i 0) (G.getD 0 0) = G.getD (i + 1) 0 ∧ ∀ y : Int, 0 ≤ y ∧ y < s.g.Q → mulM s.g.Q y (G.getD 0 0) = G.getD (i + 1) 0 → y = attrs.getD i 0) := by
    intro i hi
    obtain ⟨r1, k1, h1⟩ := gi (i + 1) (by omega)
    have e2 : (expsM attrs).getD (i + 1) 0 = attrs.getD i 0 := rfl
    rw [e2] at h1
    refine ⟨range_eq ?_ (mulM_range _ _ _ hg.okQ) r1, fun y hy hm => ?_⟩
    · obtain ⟨k2, h2⟩ := mulM_dvd hg.okQ (a := attrs.getD i 0) (b := G.getD 0 0)
      exact ⟨k2 + k0 * attrs.getD i 0 - k1, by grind⟩
    · refine range_eq ?_ hy (nums_mem h.attrs_range _ (getD_mem hi))
      obtain ⟨k2, h2⟩ := mulM_dvd hg.okQ (a := y) (b := G.getD 0 0)
      rw [hm] at h2
      refine cancel_Q hv hg0 ⟨k1 - k2 - k0 * attrs.getD i 0, ?_⟩
      grind
  by_cases hl : l = attrs
  · subst hl
    have e3 : (true && decide (l.length + 1 = G.length) && numsM s 0 l) = true := by rw [h.attrs_range]; simp; omega
    rw [e3, if_pos rfl, decide_eq_true rfl]
    refine List.all_eq_true.mpr fun p hp => ?_
    obtain ⟨i, hi, rfl⟩ := List.mem_iff_getElem.mp hp
    rw [List.length_zip, List.length_tail] at hi
    have hi1 : i < l.length := by omega
    rw [List.getElem_zip, decide_eq_true_eq]
    have := (hall i hi1).1
    rw [List.getD_eq_getElem?_getD, List.getElem?_eq_getElem hi1, ← getD_tail, List.getD_eq_getElem?_getD (l := G.tail), List.getElem?_eq_getElem (by rw [List.length_tail]; omega)] at this
    exact this
  · rw [decide_eq_false hl]
    split
    · rename_i hc
      simp only [Bool.and_eq_true, decide_eq_true_eq] at hc
      obtain ⟨⟨_, c1⟩, c2⟩ := hc
      cases ha : (l.zip G.tail).all fun p => decide (mulQ s p.1 [G.getD 0 0] = p.2) with
      | false => rfl
      | true =>
        exfalso
        apply hl
        refine list_eq (by omega) fun i hi => ?_
        have hi1 : i < l.length := by omega
        have hz : i < (l.zip G.tail).length := by rw [List.length_zip, List.length_tail]; omega
        have h3 := List.all_eq_true.mp ha _ (List.getElem_mem hz)
        rw [List.getElem_zip, decide_eq_true_eq] at h3
        refine (hall i hi).2 _ (nums_mem c2 _ (getD_mem hi1)) ?_
        rw [← getD_tail]
        rw [List.getD_eq_getElem?_getD (l := l), List.getElem?_eq_getElem hi1, List.getD_eq_getElem?_getD (l := G.tail), List.getElem?_eq_getElem (by rw [List.length_tail]; omega)]
        exact h3
    · rfl
theorem same_no {T : Tkt} {u v : Spd} (e : u.dare = v.dare) (l : List Int) : traceM s T u v = ([], false) ∧ guiltyM s T u v l = false := by
  have h1 : gapsM s T u v = ([], false) := by unfold gapsM; simp [e]
  refine ⟨?_, ?_⟩
  · unfold traceM; rw [h1]; rfl
  · unfold guiltyM; rw [h1]; rfl
end
end TpA
namespace TpA
open FdSpec FdPoly GrLaw GrPr TkSpec
section
variable {g : Grp} {m : Mir} {s : Stp} {attrs attrs' : List Int} {b : Bld} {x w w' n : Int}
def hT (s : Stp) (attrs : List Int) (b : Bld) (x w : Int) : Tkt :=
  { askTkt s attrs (proposeM s x attrs w).1 b with r := plusQ s (mulQ s (grantM s x w (askC s attrs (proposeM s x attrs w).1 b)) [b.u]) b.v }
def hSes (s : Stp) (attrs : List Int) (b : Bld) (x w : Int) : Ses := ⟨attrs, (proposeM s x attrs w).1, askC s attrs (proposeM s x attrs w).1 b, grantM s x w (askC s attrs (proposeM s x attrs w).1 b)⟩
end
end TpA
namespace TpA
open FdSpec FdPoly GrLaw GrPr TkSpec
section
variable {g : Grp} {m : Mir} {s : Stp} {attrs attrs' : List Int} {b : Bld} {x w w' n : Int}
end
end TpA
namespace TpA
open FdSpec FdPoly GrLaw GrPr TkSpec
section
variable {g : Grp} {m : Mir} {s : Stp} {attrs attrs' : List Int} {b : Bld} {x w w' n : Int}
end
end TpA
namespace TpA
open FdSpec FdPoly GrLaw GrPr TkSpec
section
variable {g : Grp} {m : Mir} {s : Stp} {attrs attrs' : List Int} {b : Bld} {x w w' n : Int}
end
end TpA
namespace TpA
open FdSpec FdPoly GrLaw GrPr TkSpec
theorem fine_hon {g : Grp} {m : Mir} {s : Stp} {attrs : List Int} {b : Bld} {x w : Int} (hmd : Md g m s) (hf : askFine s (publicM s x) attrs (proposeM s x attrs w).1 b = true) :
    Hon g m s attrs b x w ∧ (proposeM s x attrs w).2 = 0 := by
  unfold askFine at hf
  simp only [Bool.and_eq_true] at hf
  obtain ⟨⟨⟨⟨hu, hk⟩, he⟩, _⟩, hb⟩ := hf
  by_cases hc : ((usableM s attrs).2 && numsM s 1 [x] && numsM s 0 [w]) = true
  · have h0 : (proposeM s x attrs w).2 = 0 := by unfold proposeM; rw [if_pos hc]
    simp only [Bool.and_eq_true] at hc
    exact ⟨⟨hmd, hu, hb, nums_one.mp hc.1.2, nums_one.mp hc.2⟩, h0⟩
  · exfalso
    have e : (proposeM s x attrs w).1 = ⟨0, 0, 0⟩ := by unfold proposeM; rw [if_neg hc]
    rw [e] at he
    simp [elementsM, elemG] at he
theorem askErr_cases (s : Stp) (key : Int) (attrs : List Int) (o : Off) (b : Bld) : (askFine s key attrs o b = false ∧ askErr s key attrs o b = 1) ∨ (askFine s key attrs o b = true ∧ innerQ s (askTkt s attrs o b) = 0 ∧ askErr s key attrs o b = 7) ∨
    (askFine s key attrs o b = true ∧ innerQ s (askTkt s attrs o b) ≠ 0 ∧ askErr s key attrs o b = 0) := by
  unfold askErr
  cases askFine s key attrs o b with
  | false => exact .inl ⟨rfl, rfl⟩
  | true =>
    by_cases h : innerQ s (askTkt s attrs o b) = 0
    · exact .inr (.inl ⟨rfl, h, by simp [h]⟩)
    · exact .inr (.inr ⟨rfl, h, by simp [h]⟩)
end TpA
namespace Go.Proofs
open Go Go.Sh Go.RowKit FdSpec TkSpec CodeSpec
set_option linter.unusedSimpArgs false
set_option linter.unusedVariables false
set_option maxRecDepth 10000
section
variable {K : Value → World → Prop} {w w0 : World} {L : List (Addr × Value)}
theorem local_stpK {K : Value → World → Prop} {T' T2 : TypeId} (s : Stp) (ad : Option Addr) (m c : Nat) (hk : Kn w0 L w)
    (k : ∀ b W, Kn w0 (cellsOf L b 0 (stpC s (.slice ad m c))) W → Below w.heap.size w W → w.heap.size ≤ b → K (.pointer (some ⟨b, 0, none⟩)) W) :
    oM Tryz.prog (.alloc 32) T' [] (fun v w => oM Tryz.prog (.store 32 (.tmp 0) (.tmp 1)) T2 [v, stpV s (.slice ad m c)] (fun _ w => K v w) w) w :=
  local_kn al_stp rfl sz_stp rfl rfl (stp_one s ad m c) hk k
theorem spd_R {w : World} {s : Stp} {l : List Int} {b : Bld} {d : Int} {uv : Value} (hd : I64 d) (hu : Ints w uv (useM s l b d).1.answers) : SpdR w (useM s l b d).1 uv := by
  refine ⟨?_, hu⟩
  unfold useM
  split
  · exact hd
  · constructor <;> decide
theorem made_of {c : Cas} (hmd : (madeM c).2 = true) : TpA.Md (makeG c.q).1 c.m (madeM c).1 ∧ (madeM c).1.g.Q = c.q := by
  unfold madeM at hmd ⊢
  split at hmd
  · rename_i h0
    rw [if_pos h0]
    have h1 := TpA.made_md hmd
    exact ⟨h1, by rw [h1.eg]; exact (TpA.makeG_valid h0).2⟩
  · cases hmd
structure IsH (c : Cas) : Prop where
  small : smallM c = true
  made : (madeM c).2 = true
  s : (issuedM c).s = (madeM c).1
  hon : TpA.Hon (makeG c.q).1 c.m (madeM c).1 c.attrs c.b c.x c.w
  inn : innerQ (madeM c).1 (askTkt (madeM c).1 c.attrs (proposeM (madeM c).1 c.x c.attrs c.w).1 c.b) ≠ 0
  x : (issuedM c).x = TpA.hSes (madeM c).1 c.attrs c.b c.x c.w
  t : (issuedM c).t = TpA.hT (madeM c).1 c.attrs c.b c.x c.w
theorem issued_hon {c : Cas} (h : (issuedM c).ok = true) : IsH c := by
  cases hsm : smallM c with
  | false => unfold issuedM at h; rw [hsm] at h; simp at h
  | true =>
  cases hmd : (madeM c).2 with
  | false => unfold issuedM at h; rw [hsm, hmd] at h; simp at h
  | true =>
  have h1 := (made_of hmd).1
  have e : (askM (madeM c).1 (publicM (madeM c).1 c.x) c.attrs (proposeM (madeM c).1 c.x c.attrs c.w).1 c.b).2 = askErr (madeM c).1 (publicM (madeM c).1 c.x) c.attrs (proposeM (madeM c).1 c.x c.attrs c.w).1 c.b := rfl
  rcases TpA.askErr_cases (madeM c).1 (publicM (madeM c).1 c.x) c.attrs (proposeM (madeM c).1 c.x c.attrs c.w).1 c.b with ⟨hf, he⟩ | ⟨hf, hi, he⟩ | ⟨hf, hi, he⟩
  · unfold issuedM at h; rw [hsm, hmd, e, he] at h; simp at h
  · unfold issuedM at h; rw [hsm, hmd, e, he] at h; simp at h
  obtain ⟨hh, hp⟩ := TpA.fine_hon h1 hf
  have ea : (askM (madeM c).1 (publicM (madeM c).1 c.x) c.attrs (proposeM (madeM c).1 c.x c.attrs c.w).1 c.b).1 = askC (madeM c).1 c.attrs (proposeM (madeM c).1 c.x c.attrs c.w).1 c.b := by
    unfold askM; dsimp only; rw [if_pos he]
  have ei : issuedM c = ⟨(madeM c).1, TpA.hSes (madeM c).1 c.attrs c.b c.x c.w, TpA.hT (madeM c).1 c.attrs c.b c.x c.w, true⟩ := by
    unfold issuedM
    rw [hsm, hmd, e, he, hp, ea, hh.finish hi, if_pos (hh.grant hh.chal.2).2, if_pos rfl]
    rfl
  exact ⟨hsm, hmd, by rw [ei], hh, hi, by rw [ei], by rw [ei]⟩
end
end Go.Proofs
