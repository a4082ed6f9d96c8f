/- Parts of the proof of the seat's statements (JE, JF, JnSane, JH, JK0, ShApp, JnRef, JRf1, DkR1, DkR2, DkR3, DkR4, DkR5, DkR6, DkR7, DkLaw6, DkR8, JRf2, JRf3, JRf4, HJb, JB1, JB2, JMz, JB3, JB4, JB5): lemmas about the given translation and plain laws. No condition of their own. -/
import Derived.Test.YtefjibjojkjiiaaGreatDoorJnc
import Derived.KernelRfl
import Derived.Deep.Upon
import Derived.Deep.MidRow
import Derived.Test.YtefjibjojkjiiaaGreatDoorProg
set_option linter.all false
namespace Go.Proofs
open Go Go.Sh Go.RowKit CodeSpec JnSpec DkSpec
set_option linter.unusedSimpArgs false
set_option linter.unusedVariables false
set_option maxRecDepth 10000
structure JSt (w : World) (b : Nat) (h : Dk) (p : Nat) (v : Value) (w' : World) (h' : Dk) (v' : Value) : Prop where
  fr : Fr (fun i => Own b h i ∨ JO p v i) w w'
  own : ∀ i, Own b h' i → Own b h i ∨ w.heap.size ≤ i
  rd : ∀ i, Rdb h' i → Rdb h i ∨ w.heap.size ≤ i
  jo : ∀ i, JO p v' i → JO p v i ∨ w.heap.size ≤ i
def Same (w W : World) : Prop := W.heap = w.heap ∧ W.os = w.os ∧ W.tape = w.tape ∧ W.output = w.output
theorem Same.below {w W : World} (h : Same w W) : Below w.heap.size w W := ⟨h.2.1, h.2.2.1, h.2.2.2, by rw [h.1]; exact Nat.le_refl _, fun i _ => by rw [h.1]⟩
section
variable {w w' w2 : World} {b p : Nat} {A A' : Ab} {h h' h2 : Dk} {f : Int} {j j' : Jn} {v v' v2 : Value} {K : Value → World → Prop}
theorem JSt.refl : JSt w b h p v w h v := ⟨Fr.refl _ _, fun _ h => .inl h, fun _ h => .inl h, fun _ h => .inl h⟩
theorem JSt.of_step (t : Step w b h w' h') : JSt w b h p v w' h' v := ⟨t.fr.mono (fun _ _ h => .inl h), t.own, t.rd, fun _ h => .inl h⟩
theorem JSt.trans (t : JSt w b h p v w' h' v') (u : JSt w' b h' p v' w2 h2 v2) : JSt w b h p v w2 h2 v2 :=
  ⟨t.fr.trans u.fr (fun i hi => hi.elim (fun h => (t.own i h).elim (fun h => .inl (.inl h)) .inr) (fun h => (t.jo i h).elim (fun h => .inl (.inr h)) .inr)),
   fun i hi => (u.own i hi).elim (t.own i) (fun h => .inr (Nat.le_trans t.fr.size h)),
   fun i hi => (u.rd i hi).elim (t.rd i) (fun h => .inr (Nat.le_trans t.fr.size h)),
   fun i hi => (u.jo i hi).elim (t.jo i) (fun h => .inr (Nat.le_trans t.fr.size h))⟩
theorem JSt.below (g : Below w.heap.size w w') : JSt w b h p v w' h v := ⟨⟨g.os, g.tape, g.output, g.size, fun i hi _ => g.block i hi⟩, fun _ h => .inl h, fun _ h => .inl h, fun _ h => .inl h⟩
theorem IsJn.set4 (jn : IsJn w b h p f j v) (t : Bool) : IsJn (w.setCell ⟨p, 4, none⟩ (.bool t)) b h p f { j with broken := t } v := by
  refine ⟨by rw [block_set jn.blk]; rfl, owns_keep jn.row (fun i hi => setCell_heap_ne _ _ _ _ (fun e => jn.pv (by rw [hi]; exact congrArg some e))), jn.sep, jn.six, jn.len⟩
theorem JSt.set (i : Nat) (u : Value) : JSt w b h p v (w.setCell ⟨p, i, none⟩ u) h v := ⟨(Fr.refl _ _).set _ _ (.inl (.inr (.inl rfl))), fun _ h => .inl h, fun _ h => .inl h, fun _ h => .inl h⟩
theorem Sys.set (s : Sys w b A h) (jn : IsJn w b h p f j v) (i : Nat) (u : Value) : Sys (w.setCell ⟨p, i, none⟩ u) b A h :=
  s.fresh (S := fun k => k = p) ((Fr.refl _ _).set _ _ (.inl rfl)) (fun k hk => by
    subst hk
    have h1 := jn.sep k (.inl rfl)
    exact ⟨fun h => h.elim h1.1 h1.2, jn.six k (.inl rfl)⟩)
theorem Sys.drew (s : Sys w b A h) : Sys { w with drawn := w.drawn + 1 } b A h := s.fresh (S := fun _ => False) ((Fr.refl _ _).drew) (fun _ h => h.elim)
theorem syncJ_ok (s : Sys w b A h) (jn : IsJn w b h p f j v) (k : ∀ w' h', Sys w' b (syncJ A f j).2.1 h' → IsJn w' b h' p f (syncJ A f j).2.2 v → JSt w b h p v w' h' v → K (.int .i64 (syncJ A f j).1) w') : callM Tryz.prog 14 #[jnP p] K w := by
  apply sh_14_ok
  unfold sh_14 jnP
  have c0 := jn.c 0
  have c1 := jn.c 1
  have c4 := jn.c 4
  simp only [jnCells] at c0 c1 c4
  cases hb : j.broken with
  | true =>
    rw [hb] at c4
    unfold syncJ at k
    rw [if_pos hb] at k
    repeat (any_goals (first
    | (with_reducible ((refine idCond ?_); refine yL ?_))
    | ((with_reducible refine idO ?_); (with_reducible refine oM_gen fun Kv hK=>?_); simp [go_sem, c4]; refine hK _ _ ?_; clear hK; clear Kv)))
    exact k w h s jn JSt.refl
  | false =>
    rw [hb] at c4
    unfold syncJ at k
    rw [if_neg (by rw [hb]; simp)] at k
    repeat (any_goals (first
    | (with_reducible ((refine idCond ?_); refine yM ?_))
    | ((with_reducible refine idO ?_); (with_reducible refine oM_gen fun Kv hK=>?_); simp [go_sem, c4]; refine hK _ _ ?_; clear hK; clear Kv)))
    refine ⟨Same w, ⟨rfl, rfl, rfl, rfl⟩, ?_⟩
    refine ⟨rfl, ?_⟩
    repeat (first | (with_reducible refine pureH_in ?_) | (with_reducible refine oH_nil ?_) | (with_reducible refine gdH_true rfl ?_) | (with_reducible refine gdH_false rfl ?_) | (refine oH_of ⟨_, rfl⟩ (fun W0 hW0 => by (refine oM_gen (fun Kv hK => ?_)); simp [go_sem, cell_heap hW0.1, c0, c1]; (first | exact hK _ _ ⟨rfl, rfl⟩ | exact ⟨by omega, hK _ _ ⟨rfl, rfl⟩⟩)) ?_))
    refine ⟨fun _ _ => True, fun w1 hw1 => ?_⟩
    have s1 := s.below hw1.below
    have jn1 := jn.below hw1.below
    refine Sync_ok s1.d f (fun w2 h2 d2 t2 => ?_)
    have s2 := s1.step d2 t2
    have jn2 := jn1.step t2
    have c42 := jn2.c 4
    have f42 := jn2.fz 4
    simp only [jnCells] at c42
    have e1 : (decide ((syncA A f).1 ≠ 0)) = !decide ((syncA A f).1 = 0) := by simp
    repeat (any_goals ((with_reducible refine idO ?_); (with_reducible refine oM_gen fun Kv hK=>?_); simp [go_sem, c42, f42]; refine hK _ _ ?_; clear hK; clear Kv))
    rw [← e1]
    exact k _ h2 (s2.set jn2 4 _) (jn2.set4 _) ((JSt.below hw1.below).trans ((JSt.of_step t2).trans (JSt.set 4 _)))
theorem append_ok (s : Sys w b A h) (jn : IsJn w b h p f j v) (hf : 0 ≤ f ∧ f ≤ 15) (t : List UInt8) (ht : t.length ≤ 16777216) (k : ∀ w' h' v', Sys w' b (appendJ A f j t).2.1 h' → IsJn w' b h' p f (appendJ A f j t).2.2 v' → JSt w b h p v w' h' v' → K (.int .i64 (appendJ A f j t).1) w') : callM Tryz.prog 12 #[jnP p, .string ⟨t.toArray⟩] K w := by
  apply sh_12_ok
  unfold sh_12 jnP
  refine form_ok t ht s.l (fun w1 hb1 => ?_)
  have s1 := s.below hb1
  have jn1 := jn.below hb1
  have j1 : JSt w b h p v w1 h v := JSt.below hb1
  have hfl := form_len ht
  have hfp := form_pos t
  have hl := jn.len
  clear hb1 s jn
  have c0 := jn1.c 0
  have c1 := jn1.c 1
  have c3 := jn1.c 3
  have c4 := jn1.c 4
  simp only [jnCells] at c0 c1 c3 c4
  cases hb : j.broken with
  | true =>
    rw [hb] at c4
    unfold appendJ at k
    rw [if_pos hb] at k
    repeat (any_goals (first
    | (with_reducible ((refine idCond ?_); refine yL ?_))
    | ((with_reducible refine idO ?_); (with_reducible refine oM_gen fun Kv hK=>?_); simp [go_sem, c4]; refine hK _ _ ?_; clear hK; clear Kv)))
    exact k w1 h v s1 jn1 j1
  | false =>
    rw [hb] at c4
    unfold appendJ at k
    rw [if_neg (by rw [hb]; simp)] at k
    by_cases h1 : 20000 < t.length
    · rw [if_pos h1] at k
      repeat (any_goals (first
      | (with_reducible ((refine idCond ?_); first|refine yM ?_|refine yN ?_))
      | ((with_reducible refine idO ?_); (with_reducible refine oM_gen fun Kv hK=>?_); simp [go_sem, c4]; refine hK _ _ ?_; clear hK; clear Kv)))
      exact k w1 h v s1 jn1 j1
    rw [if_neg h1] at k
    by_cases h2 : 1048576 < j.bytes + (form t).length
    · rw [if_pos h2] at k
      repeat (any_goals (first
      | (with_reducible ((refine idCond ?_); first|refine yM ?_|refine yN ?_|refine yO ?_))
      | ((with_reducible refine idO ?_); (with_reducible refine oM_gen fun Kv hK=>?_); simp [go_sem, c4, c3]; (try simp (disch := omega) only [wrapI64, wrapU8, wrapU32, wrapU64]); refine hK _ _ ?_; clear hK; clear Kv)))
      exact k w1 h v s1 jn1 j1
    rw [if_neg h2] at k
    repeat (any_goals (first
    | (with_reducible ((refine idCond ?_); first|refine yM ?_|refine yO ?_))
    | ((with_reducible refine idO ?_); (with_reducible refine oM_gen fun Kv hK=>?_); simp [go_sem, c4, c3]; (try simp (disch := omega) only [wrapI64, wrapU8, wrapU32, wrapU64]); refine hK _ _ ?_; clear hK; clear Kv)))
    refine ⟨Same w1, ⟨rfl, rfl, rfl, rfl⟩, ?_⟩
    refine ⟨rfl, ?_⟩
    repeat (first | (with_reducible refine pureH_in ?_) | (with_reducible refine oH_nil ?_) | (with_reducible refine gdH_true rfl ?_) | (with_reducible refine gdH_false rfl ?_) | (refine oH_of ⟨_, rfl⟩ (fun W0 hW0 => by (refine oM_gen (fun Kv hK => ?_)); simp [go_sem, cell_heap hW0.1, c0, c1, c3]; (first | exact hK _ _ ⟨rfl, rfl⟩ | exact ⟨by omega, hK _ _ ⟨rfl, rfl⟩⟩)) ?_))
    refine ⟨fun _ _ => True, fun w2 hw2 => ?_⟩
    have s2 := s1.below hw2.below
    have jn2 := jn1.below hw2.below
    have j2 := j1.trans (JSt.below hw2.below)
    clear s1 jn1 j1 hw2 c0 c1 c3 c4
    refine Write_ok s2.d f j.bytes (form t) (by omega) (by omega) (fun w3 hh3 d3 t3 => ?_)
    have s3 := s2.step d3 t3
    have jn3 := jn2.step t3
    have j3 := j2.trans (JSt.of_step t3)
    clear s2 jn2 j2 t3 d3
    by_cases h3 : (writeA A f j.bytes (form t)).1 = 0
    · rw [if_neg (by rw [h3]; simp)] at k
      repeat (any_goals (first
      | (with_reducible ((refine idCond ?_); refine yR ?_))
      | ((with_reducible refine idO ?_); (with_reducible refine oM_gen fun Kv hK=>?_); simp [go_sem]; refine hK _ _ ?_; clear hK; clear Kv)))
      have b3 := jn3.blk
      have hwr : IntKind.i64.wrap ((j.bytes : Int) + ((form t).length : Int)) = ((j.bytes + (form t).length : Nat) : Int) := by rw [wrapI64] <;> omega
      refine ⟨fun sg W => sg ≤ 2 → W.heap[p]? = some (.cells (jnCells b f v j) 70 (0, 0)), fun _ => b3, ?_⟩
      iterate 11 (first | (with_reducible refine pureH_in ?_) | (with_reducible refine oH_nil ?_) | (with_reducible refine gdH_true rfl ?_) | (with_reducible refine gdH_false rfl ?_) | (refine oH_of ⟨_, rfl⟩ (fun W0 hW0 => by (obtain ⟨s0, hs0, hC⟩ := hW0); (have hsk : s0 ≤ 2 := by omega); (refine oM_gen (fun Kv hK => ?_)); simp [go_sem, cell_of_block (hC hsk), jnCells]; (first | exact hK _ _ ⟨rfl, rfl⟩ | exact ⟨by omega, hK _ _ ⟨rfl, rfl⟩⟩)) ?_))
      repeat (first | (with_reducible refine pureH_in ?_) | (with_reducible refine oH_nil ?_) | (with_reducible refine gdH_true rfl ?_) | (with_reducible refine gdH_false rfl ?_) | (refine oH_of ⟨_, rfl⟩ (fun W0 hW0 => by (obtain ⟨s0, hs0, hC⟩ := hW0); (refine oM_gen (fun Kv hK => ?_)); simp [go_sem, hwr]; (first | exact hK _ _ ⟨rfl, rfl⟩ | exact ⟨by omega, hK _ _ ⟨rfl, rfl⟩⟩)) ?_))
      have s4 := s3.drew
      have jn4 := jn3.below (w' := { w3 with drawn := w3.drawn + 1 }) ((Below.refl _ _).drew)
      have j4 := j3.trans (JSt.below (w' := { w3 with drawn := w3.drawn + 1 }) ((Below.refl _ _).drew))
      generalize ({ w3 with drawn := w3.drawn + 1 } : World) = w4 at *
      clear s3 jn3 j3 b3
      repeat (any_goals ((with_reducible refine idO ?_); (with_reducible refine oM_gen fun Kv hK=>?_); simp [go_sem]; refine hK _ _ ?_; clear hK; clear Kv))
      have hb5 : Below w4.heap.size w4 (w4.alloc (.cells #[.string ⟨t.toArray⟩] 9)) := (Below.refl _ _).alloc (Nat.le_refl _) _
      have hn5 := heap_alloc_new w4 (.cells #[.string ⟨t.toArray⟩] 9)
      have s5 := s4.below hb5
      have jn5 := jn4.below hb5
      have j5 := j4.trans (JSt.below hb5)
      generalize w4.alloc (.cells #[.string ⟨t.toArray⟩] 9) = w5 at *
      clear s4 jn4 j4
      have b5 := jn5.blk
      have hp5 := jn5.lt (.inl rfl)
      refine ⟨fun _ => b5, ?_⟩
      refine append_at 46 46 9 Tryz.t9 (.string ⟨#[]⟩) 1 16 Tryz.underlying46 (by kernel_rfl) (by kernel_rfl) (by kernel_rfl) (by kernel_rfl) rfl (by omega) jn5.row [Cd.strV t] rfl (fun e => by cases e) (fun a ha i u hu => by
        cases ha
        rw [Cd.addr_add, Nat.zero_add, cell_of_block hn5]
        match i, hu with
        | 0, hu => exact hu
        | i + 1, hu => simp at hu) (by intro u hu; simp only [List.mem_singleton] at hu; subst hu; rfl) (by unfold maxLen; omega) (by omega) (fun v6 w6 ho6 hg6 hv6 => ?_)
      have b6 : w6.heap[p]? = some (.cells (jnCells b f v j) 70 (0, 0)) := (hg6.block p hp5 (fun e => jn5.pv e.symm)).trans b5
      refine ⟨fun _ => b6, ?_⟩
      have f62 := frozen_of_block b6 2
      have c63 := block_set (i := 2) b6 v6
      have f63 := frozen_of_block c63 3
      have c62 := cell_of_block b6 2
      have c633 := cell_of_block c63 3
      simp [jnCells] at c62 c633
      obtain ⟨va6, vc6, rfl⟩ := owns_len ho6
      repeat (any_goals (first
      | (refine ⟨fun hh => absurd hh (by decide), ?_⟩)
      | ((with_reducible refine idO ?_); (with_reducible refine oM_gen fun Kv hK=>?_); simp [go_sem, c62, c633, f62, f63]; refine hK _ _ ?_; clear hK; clear Kv)))
      obtain ⟨v6, hv6e⟩ : ∃ v6, v6 = Value.slice va6 (j.recs.length + 1) vc6 := ⟨_, rfl⟩
      rw [← hv6e] at c63 ho6 hv6 ⊢
      have c64 := block_set (i := 3) c63 (.int .i64 ((j.bytes + (form t).length : Nat) : Int))
      have hz6 := hg6.size
      have hpv6 : v6.ownBlock ≠ some p := fun e => (hv6 p e).elim (fun e => jn5.pv e) (fun e => by omega)
      have hz5 := s5.l.size
      have hF : Fr (JO p v) w5 ((w6.setCell ⟨p, 2, none⟩ v6).setCell ⟨p, 3, none⟩ (.int .i64 ((j.bytes + (form t).length : Nat) : Int))) :=
        (((Fr.refl (JO p v) w5).by hg6 (fun i e => .inl (.inr e))).set _ _ (.inl (.inl rfl))).set _ _ (.inl (.inl rfl))
      refine k _ hh3 v6 (s5.fresh hF (fun i hi => ⟨fun e => e.elim (jn5.sep i hi).1 (jn5.sep i hi).2, jn5.six i hi⟩)) ⟨?_, ?_, ?_, ?_, ?_⟩ (j5.trans ⟨hF.mono (fun _ _ h => .inr h), fun _ h => .inl h, fun _ h => .inl h, ?_⟩)
      · refine Eq.trans c64 ?_
        simp [jnCells, hb]
      · simp only [List.length_append, List.length_singleton, List.map_append, List.map_cons, List.map_nil]
        refine owns_keep ho6 (fun i hi => ?_)
        have hip : i ≠ p := fun e => hpv6 (by rw [← e]; exact hi)
        rw [setCell_heap_ne _ _ _ _ hip, setCell_heap_ne _ _ _ _ hip]
      · rintro i (rfl | hi)
        · exact jn5.sep _ (.inl rfl)
        · rcases hv6 i hi with e | e
          · exact jn5.sep i (.inr e)
          · exact ⟨fun ho => by have := s5.d.lt (.inl ho); omega, fun ho => by have := s5.d.lt (.inr ho); omega⟩
      · rintro i (rfl | hi)
        · exact jn5.six _ (.inl rfl)
        · rcases hv6 i hi with e | e
          · exact jn5.six i (.inr e)
          · omega
      · simp only [List.length_append, List.length_singleton]
        omega
      · rintro i (rfl | hi)
        · exact .inl (.inl rfl)
        · exact (hv6 i hi).imp .inr id
    · rw [if_pos h3] at k
      have c43 := jn3.c 4
      have f43 := jn3.fz 4
      simp only [jnCells] at c43
      repeat (any_goals (first
      | (with_reducible ((refine idCond ?_); refine yQ ?_))
      | ((with_reducible refine idO ?_); (with_reducible refine oM_gen fun Kv hK=>?_); simp [go_sem, c43, f43]; refine hK _ _ ?_; clear hK; clear Kv)))
      exact k _ hh3 v (s3.set jn3 4 _) (jn3.set4 _) (j3.trans (JSt.set 4 _))
end
end Go.Proofs
namespace Go.Proofs
open Go Go.Sh Go.RowKit CodeSpec JnSpec DkSpec
set_option linter.unusedSimpArgs false
set_option linter.unusedVariables false
set_option maxRecDepth 10000
section
variable {w w' w2 : World} {b p : Nat} {A A' : Ab} {h h' h2 : Dk} {f : Int} {j j' : Jn} {v v' v2 : Value} {K : Value → World → Prop}
theorem Step.below (g : Below w.heap.size w w') : Step w b h w' h := ⟨⟨g.os, g.tape, g.output, g.size, fun i hi _ => g.block i hi⟩, fun _ h => .inl h, fun _ h => .inl h⟩
theorem readA_len (A : Ab) (f a n : Int) : (readA A f a n).1.length ≤ (A.F f).1.length := by
  unfold readA
  split
  · simp
  · split
    · simp
    · simp; omega
theorem formL_len (l : List Bs) : l.length ≤ (formL l).length := by
  induction l with
  | nil => simp
  | cons t l ih =>
    have := form_pos t
    rw [formL_cons, List.length_append, List.length_cons]
    omega
def Opened (w : World) (b : Nat) (h : Dk) (w0 : World) (f : Int) (r : Value) : Option Jn → Prop
  | none => r = .pointer none
  | some j => ∃ p v, r = jnP p ∧ IsJn w b h p f j v ∧ ∀ i, JO p v i → w0.heap.size ≤ i
theorem owns_zero {w : World} {B : Nat} {e : TypeId} {sz n : Nat} {v : Value} {xs : List Value} (h : w.ownsRow B e sz v n xs) : w.ownsRow 0 e sz v n xs := by
  refine ⟨h.1, h.2.imp id ?_⟩
  rintro ⟨g, cap, cur, a, b, c⟩
  exact ⟨g, cap, cur, a, Nat.zero_le _, c⟩
theorem opened_new {w0 w2 w3 : World} {C : Ab} {h1 h3 : Dk} {recs : List Bs} {n : Nat} (s3 : Sys w3 b C h3) (t3 : Step w2 b h1 w3 h3) (ho : w2.ownsRow 0 9 1 v recs.length (recs.map Cd.strV)) (hvo : ∀ i, v.ownBlock = some i → w0.heap.size ≤ i)
    (hvd : ∀ i, v.ownBlock = some i → ¬ Own b h1 i ∧ ¬ Rdb h1 i) (h6 : 6 ≤ w0.heap.size) (hz : w0.heap.size ≤ w2.heap.size) (hn : recs.length ≤ n ∧ n ≤ 16777216) :
    Sys (w3.alloc (.cells #[dkP b, .int .i64 f, v, .int .i64 (n : Int), .bool false] 70)) b C h3 ∧ Step w2 b h1 (w3.alloc (.cells #[dkP b, .int .i64 f, v, .int .i64 (n : Int), .bool false] 70)) h3 ∧
    Opened (w3.alloc (.cells #[dkP b, .int .i64 f, v, .int .i64 (n : Int), .bool false] 70)) b h3 w0 f (jnP w3.heap.size) (some ⟨recs, n, false⟩) := by
  have hb : Below w3.heap.size w3 (w3.alloc (.cells #[dkP b, .int .i64 f, v, .int .i64 (n : Int), .bool false] 70)) := (Below.refl _ _).alloc (Nat.le_refl _) _
  have hnew := heap_alloc_new w3 (.cells #[dkP b, .int .i64 f, v, .int .i64 (n : Int), .bool false] 70)
  generalize w3.alloc (.cells #[dkP b, .int .i64 f, v, .int .i64 (n : Int), .bool false] 70) = w4 at *
  have hz3 := t3.fr.size
  refine ⟨s3.below hb, t3.trans (Step.below hb), _, v, rfl, ⟨hnew, ?_, ?_, ?_, hn⟩, ?_⟩
  · refine owns_keep ho (fun i hi => ?_)
    have hl := (owns_own ho hi).1
    rw [hb.block i (by omega)]
    exact t3.fr.block i hl (hvd i hi).1
  · rintro i (rfl | hi)
    · exact ⟨fun ho => by have := s3.d.lt (.inl ho); omega, fun ho => by have := s3.d.lt (.inr ho); omega⟩
    · have hl := (owns_own ho hi).1
      exact ⟨fun hx => (t3.own i hx).elim (hvd i hi).1 (fun h => by omega), fun hx => (t3.rd i hx).elim (hvd i hi).2 (fun h => by omega)⟩
  · rintro i (rfl | hi)
    · omega
    · have := hvo i hi; omega
  · rintro i (rfl | hi)
    · omega
    · exact hvo i hi
theorem openJ_ok (s : Sys w b A h) (f : Int) (k : ∀ w' h' r, Sys w' b (openJ A f).2.2 h' → Step w b h w' h' → Opened w' b h' w f r (openJ A f).1 → K (.tuple #[r, .int .i64 (openJ A f).2.1]) w') : callM Tryz.prog 8 #[dkP b, .int .i64 f] K w := by
  apply sh_8_ok
  unfold sh_8
  unfold openJ at k
  by_cases hf : f < 0 ∨ 15 < f
  · rw [if_pos hf] at k
    by_cases h0 : f < 0
    · repeat (any_goals (first
      | (with_reducible first|((refine idGd ?_); ((refine idGdD ?_); refine zJ ?_))|((refine idPick ?_); refine yD ?_)|((refine idCond ?_); refine yL ?_))
      | ((with_reducible refine idO ?_); (with_reducible refine oM_gen fun Kv hK=>?_); simp [go_sem]; refine hK _ _ ?_; clear hK; clear Kv)))
      exact k w h _ s (Step.refl _ _ _) rfl
    · have h1 : 15 < f := hf.resolve_left h0
      repeat (any_goals (first
      | (with_reducible first|refine pureM_in ?_|((refine idGd ?_); ((refine idGdD ?_); refine zI ?_))|((refine idPick ?_); refine yE ?_)|((refine idCond ?_); refine yN ?_))
      | ((with_reducible refine idO ?_); (with_reducible refine oM_gen fun Kv hK=>?_); simp [go_sem]; refine hK _ _ ?_; clear hK; clear Kv)))
      exact k w h _ s (Step.refl _ _ _) rfl
  rw [if_neg hf] at k
  have h0 : ¬ f < 0 := fun e => hf (.inl e)
  have h1 : ¬ 15 < f := fun e => hf (.inr e)
  repeat (any_goals (first
  | (with_reducible first|refine pureM_in ?_|((refine idGd ?_); ((refine idGdD ?_); refine zI ?_))|((refine idPick ?_); refine yE ?_)|((refine idCond ?_); refine yO ?_))
  | ((with_reducible refine idO ?_); (with_reducible refine oM_gen fun Kv hK=>?_); simp [go_sem]; refine hK _ _ ?_; clear hK; clear Kv)))
  refine Sync_ok s.d f (fun w1 h1' d1 t1 => ?_)
  have s1 := s.step d1 t1
  by_cases he : (syncA A f).1 = 0
  · rw [if_neg (by simp [he])] at k
    repeat (any_goals (first
    | (with_reducible ((refine idCond ?_); refine yR ?_))
    | ((with_reducible refine idO ?_); (with_reducible refine oM_gen fun Kv hK=>?_); simp [go_sem]; refine hK _ _ ?_; clear hK; clear Kv)))
    refine size_ok s1.d f ?_
    refine read_ok s1.d f 0 _ ?_
    have hrl := readA_len (syncA A f).2 f 0 ((((syncA A f).2.F f).1.length : Nat) : Int)
    have hsz := (s1.d.wf.sz f).1
    generalize (syncA A f).2 = B at *
    unfold openB at k
    generalize readA B f 0 (((B.F f).1.length : Nat) : Int) = r at *
    obtain ⟨x, e⟩ := r
    dsimp only at k hrl ⊢
    by_cases h2 : e = 0
    · rw [if_neg (by simp [h2])] at k
      repeat (any_goals (first
      | (with_reducible ((refine idCond ?_); refine yR ?_))
      | ((with_reducible refine idO ?_); (with_reducible refine oM_gen fun Kv hK=>?_); simp [go_sem]; refine hK _ _ ?_; clear hK; clear Kv)))
      refine readJ_ok x (by omega) s1.l (fun v w2 ho2 hb2 => ?_)
      have hrs := readJ_spec x
      have hrl1 := formL_len (readJ x).1
      rw [← hrs.2.1] at hrl1
      have hrl2 : (readJ x).2 ≤ x.length := by
        have := congrArg List.length hrs.2.2.1
        rw [List.length_append, ← hrs.2.1] at this
        omega
      clear hrs
      have s2 := s1.below hb2
      have t2 := t1.trans (Step.below (b := b) (h := h1') hb2)
      have hz1 := t1.fr.size
      have hvo : ∀ i, v.ownBlock = some i → w1.heap.size ≤ i := fun i hi => (owns_own ho2 hi).2.1
      have ho20 : w2.ownsRow 0 9 1 v (readJ x).1.length ((readJ x).1.map Cd.strV) := owns_zero ho2
      have hvd : ∀ i, v.ownBlock = some i → ¬ Own b h1' i ∧ ¬ Rdb h1' i := fun i hi => by
        have h3 := hvo i hi
        exact ⟨fun ho => by have := s1.d.lt (.inl ho); omega, fun ho => by have := s1.d.lt (.inr ho); omega⟩
      have hz2 := hb2.size
      have hz5 := s.l.size
      by_cases h3 : (readJ x).2 < x.length
      · rw [if_pos h3] at k
        by_cases h4 : (truncA B f (readJ x).2).1 = 0
        · rw [if_neg (by simp [h4])] at k
          repeat (any_goals ((with_reducible refine idO ?_); (with_reducible refine oM_gen fun Kv hK=>?_); simp [go_sem]; refine hK _ _ ?_; clear hK; clear Kv))
          refine ⟨fun vs W => ∃ u h', vs = [u, .pointer none, .int .i64 0] ∧ Sys W b (truncA B f (readJ x).2).2 h' ∧ Step w2 b h1' W h', ?_, ?_⟩
          · repeat (any_goals (first
            | (with_reducible ((refine idCond ?_); refine yN ?_))
            | ((with_reducible refine idO ?_); (with_reducible refine oM_gen fun Kv hK=>?_); simp [go_sem]; refine hK _ _ ?_; clear hK; clear Kv)))
            refine Trunc_ok s2.d f (readJ x).2 (fun w3 h3' d3 t3 => ?_)
            repeat (any_goals (first
            | (with_reducible ((refine idCond ?_); refine yR ?_))
            | ((with_reducible refine idO ?_); (with_reducible refine oM_gen fun Kv hK=>?_); simp [go_sem]; refine hK _ _ ?_; clear hK; clear Kv)))
            exact ⟨_, h3', rfl, s2.step d3 t3, t3⟩
          · rintro _ _ w3 ⟨u, h3', rfl, s3, t3⟩
            obtain ⟨va, vc, hve⟩ := owns_len ho20
            have hve2 := hve
            subst hve
            repeat (any_goals ((with_reducible refine idO ?_); (with_reducible refine oM_gen fun Kv hK=>?_); simp [go_sem]; refine hK _ _ ?_; clear hK; clear Kv))
            obtain ⟨s4, t4, o4⟩ := opened_new (f := f) (w0 := w) (n := (readJ x).2) s3 t3 ho20 (fun i hi => Nat.le_trans hz1 (hvo i hi)) hvd (by omega) (by omega) ⟨hrl1, by omega⟩
            exact k _ h3' _ s4 (t2.trans t4) o4
        · rw [if_pos h4] at k
          repeat (any_goals ((with_reducible refine idO ?_); (with_reducible refine oM_gen fun Kv hK=>?_); simp [go_sem]; refine hK _ _ ?_; clear hK; clear Kv))
          refine ⟨fun _ _ => False, ?_, fun _ _ _ h => h.elim⟩
          repeat (any_goals (first
          | (with_reducible ((refine idCond ?_); refine yN ?_))
          | ((with_reducible refine idO ?_); (with_reducible refine oM_gen fun Kv hK=>?_); simp [go_sem]; refine hK _ _ ?_; clear hK; clear Kv)))
          refine Trunc_ok s2.d f (readJ x).2 (fun w3 h3' d3 t3 => ?_)
          repeat (any_goals (first
          | (with_reducible ((refine idCond ?_); refine yQ ?_))
          | ((with_reducible refine idO ?_); (with_reducible refine oM_gen fun Kv hK=>?_); simp [go_sem]; refine hK _ _ ?_; clear hK; clear Kv)))
          exact k w3 h3' _ (s2.step d3 t3) (t2.trans t3) rfl
      · rw [if_neg h3] at k
        repeat (any_goals ((with_reducible refine idO ?_); (with_reducible refine oM_gen fun Kv hK=>?_); simp [go_sem]; refine hK _ _ ?_; clear hK; clear Kv))
        refine ⟨fun vs W => ∃ u h', vs = [u, .pointer none, .int .i64 0] ∧ Sys W b B h' ∧ Step w2 b h1' W h', ?_, ?_⟩
        · repeat (any_goals (first
          | (with_reducible ((refine idCond ?_); refine yO ?_))
          | ((with_reducible refine idO ?_); (with_reducible refine oM_gen fun Kv hK=>?_); simp [go_sem]; refine hK _ _ ?_; clear hK; clear Kv)))
          exact ⟨_, h1', rfl, s2, Step.refl _ _ _⟩
        · rintro _ _ w3 ⟨u, h3', rfl, s3, t3⟩
          obtain ⟨va, vc, hve⟩ := owns_len ho20
          subst hve
          repeat (any_goals ((with_reducible refine idO ?_); (with_reducible refine oM_gen fun Kv hK=>?_); simp [go_sem]; refine hK _ _ ?_; clear hK; clear Kv))
          obtain ⟨s4, t4, o4⟩ := opened_new (f := f) (w0 := w) (n := (readJ x).2) s3 t3 ho20 (fun i hi => Nat.le_trans hz1 (hvo i hi)) hvd (by omega) (by omega) ⟨hrl1, by omega⟩
          exact k _ h3' _ s4 (t2.trans t4) o4
    · rw [if_pos h2] at k
      repeat (any_goals (first
      | (with_reducible ((refine idCond ?_); refine yQ ?_))
      | ((with_reducible refine idO ?_); (with_reducible refine oM_gen fun Kv hK=>?_); simp [go_sem]; refine hK _ _ ?_; clear hK; clear Kv)))
      exact k w1 h1' _ s1 t1 rfl
  · rw [if_pos he] at k
    repeat (any_goals (first
    | (with_reducible ((refine idCond ?_); refine yQ ?_))
    | ((with_reducible refine idO ?_); (with_reducible refine oM_gen fun Kv hK=>?_); simp [go_sem]; refine hK _ _ ?_; clear hK; clear Kv)))
    exact k w1 h1' _ s1 t1 rfl
end
end Go.Proofs
namespace JnSpec
open CodeSpec DkSpec
def sA1 : Ab := (openJ newA 3).2.2
def sJ2 : Int × Ab × Jn := appendJ sA1 3 ⟨[], 0, false⟩ [97, 98]
def sJ3 : Int × Ab × Jn := appendJ sJ2.2.1 3 sJ2.2.2 []
def sA5 : Ab := (writeA sJ3.2.1 4 0 [50, 58, 97, 98, 44, 50, 57, 51, 59, 49, 58, 97, 44, 57, 56, 59]).2
def sJ6 : Option Jn × Int × Ab := openJ sA5 4
theorem sane1 : (openJ newA 3).1 = some ⟨[], 0, false⟩ ∧ (openJ newA 3).2.1 = 0 := by constructor <;> kernel_rfl
theorem sane2 : sJ2.1 = 0 := by kernel_rfl
theorem sane3 : sJ3.1 = 0 ∧ sJ3.2.2 = ⟨[[97, 98], []], 14, false⟩ := by constructor <;> kernel_rfl
theorem sane4 : readA sJ3.2.1 3 0 99 = ([50, 58, 97, 98, 44, 50, 57, 51, 59, 48, 58, 44, 48, 59], 0) := by kernel_rfl
theorem sane6 : sJ6.1 = some ⟨[[97, 98]], 9, false⟩ ∧ sJ6.2.1 = 0 ∧ (sJ6.2.2.F 4).1.length = 9 := by
  refine ⟨?_, ?_, ?_⟩ <;> kernel_rfl
theorem saneS : sumR [] = 0 ∧ sumR [97] = 97 ∧ sumR [97, 98] = 293 := by decide
end JnSpec
namespace Go.Proofs
open Go Go.Sh Go.RowKit CodeSpec JnSpec DkSpec
set_option linter.unusedSimpArgs false
set_option linter.unusedVariables false
set_option maxRecDepth 10000
section
variable {w : World} {K : Value → World → Prop}
@[go_sem] theorem nilD (T : TypeId) (a : Addr) : oM Tryz.prog (.binOp .eql 25 (.tmp 0) (.const (.pointer none)) 25) T [.pointer (some a)] K w = K (.bool false) w := by
  refine propext ⟨fun h => h, fun h => h⟩
@[go_sem] theorem nilJ (T : TypeId) (a : Addr) : oM Tryz.prog (.binOp .eql 29 (.tmp 0) (.const (.pointer none)) 29) T [.pointer (some a)] K w = K (.bool false) w := by
  refine propext ⟨fun h => h, fun h => h⟩
@[go_sem] theorem nilJn (T : TypeId) : oM Tryz.prog (.binOp .eql 29 (.tmp 0) (.const (.pointer none)) 29) T [.pointer none] K w = K (.bool true) w := by
  refine propext ⟨fun h => h, fun h => h⟩
end
section
variable {w w' w2 : World} {b p : Nat} {A A' : Ab} {h h' h2 : Dk} {f : Int} {j j' : Jn} {v v' v2 : Value} {K : Value → World → Prop}
theorem below_of_fr (g : Fr (fun _ => False) w w') : Below w.heap.size w w' := ⟨g.os, g.tape, g.output, g.size, fun i hi => g.block i hi (fun h => h)⟩
theorem below_of_step {B : Nat} (t : Step w b h w' h') (ho : ∀ i, Own b h i → B ≤ i) (hB : B ≤ w.heap.size) : Below B w w' := ⟨t.fr.os, t.fr.tape, t.fr.output, t.fr.size, fun i hi => t.fr.block i (by omega) (fun hx => by have := ho i hx; omega)⟩
theorem own_step {B : Nat} (t : Step w b h w' h') (ho : ∀ i, Own b h i → B ≤ i) (hB : B ≤ w.heap.size) : ∀ i, Own b h' i → B ≤ i := fun i hi => (t.own i hi).elim (ho i) (fun h => by omega)
theorem below_of_jst {B : Nat} (t : JSt w b h p v w' h' v') (ho : ∀ i, Own b h i → B ≤ i) (hj : ∀ i, JO p v i → B ≤ i) (hB : B ≤ w.heap.size) : Below B w w' := ⟨t.fr.os, t.fr.tape, t.fr.output, t.fr.size, fun i hi => t.fr.block i (by omega) (fun hx => hx.elim (fun hx => by have := ho i hx; omega) (fun hx => by have := hj i hx; omega))⟩
theorem newSys_ok (hl : Cd.Laid w) (k : ∀ w' b h, Sys w' b newA h → Below w.heap.size w w' → (∀ i, Own b h i → w.heap.size ≤ i) → K (dkP b) w') : callM Tryz.prog 6 #[] K w := by
  refine new_ok (fun w' b h d fr ho hr => k w' b h ⟨d, hl.below (below_of_fr fr) hl.size, fun i hi => Nat.le_trans hl.size (ho i hi)⟩ (below_of_fr fr) ho)
theorem sane_ok (hl : Cd.Laid w) (k : ∀ w', Below w.heap.size w w' → K (.bool true) w') : callM Tryz.prog 4 #[] K w := by
  apply sh_4_ok
  unfold sh_4
  refine newSys_ok hl (fun w1 b h1 s1 b1 o1 => ?_)
  repeat (any_goals (first
  | (with_reducible ((refine idCond ?_); refine yM ?_))
  | ((with_reducible refine idO ?_); (with_reducible refine oM_gen fun Kv hK=>?_); simp [go_sem]; refine hK _ _ ?_; clear hK; clear Kv)))
  refine openJ_ok s1 3 (fun w2 h2 r s2 t2 o2 => ?_)
  rw [sane1.1] at o2
  rw [sane1.2]
  obtain ⟨p, v, rfl, jn2, hj2⟩ := o2
  repeat (any_goals (first
  | (with_reducible ((refine idCond ?_); refine yM ?_))
  | ((with_reducible refine idO ?_); (with_reducible refine oM_gen fun Kv hK=>?_); simp [go_sem]; refine hK _ _ ?_; clear hK; clear Kv)))
  refine append_ok s2 jn2 (by omega) [97, 98] (by decide) (fun w3 h3 v3 s3 jn3 t3 => ?_)
  have t03 := (JSt.of_step t2).trans t3
  change Sys w3 b sJ2.2.1 h3 at s3
  change IsJn w3 b h3 p 3 sJ2.2.2 v3 at jn3
  refine append_ok s3 jn3 (by omega) [] (by decide) (fun w4 h4 v4 s4 jn4 t4 => ?_)
  change Sys w4 b sJ3.2.1 h4 at s4
  change IsJn w4 b h4 p 3 sJ3.2.2 v4 at jn4
  refine read_ok s4.d 3 0 99 ?_
  rw [sane4]
  repeat (any_goals ((with_reducible refine idO ?_); (with_reducible refine oM_gen fun Kv hK=>?_); simp [go_sem]; refine hK _ _ ?_; clear hK; clear Kv))
  refine Write_ok s4.d 4 0 [50, 58, 97, 98, 44, 50, 57, 51, 59, 49, 58, 97, 44, 57, 56, 59] (by decide) (by omega) (fun w5 h5 d5 t5 => ?_)
  have s5 := s4.step d5 t5
  have jn5 := jn4.step t5
  refine openJ_ok s5 4 (fun w6 h6 r s6 t6 o6 => ?_)
  change Opened w6 b h6 w5 4 r sJ6.1 at o6
  change Sys w6 b sJ6.2.2 h6 at s6
  have e62 : (openJ (writeA sJ3.2.1 4 0 [50, 58, 97, 98, 44, 50, 57, 51, 59, 49, 58, 97, 44, 57, 56, 59]).2 4).2.1 = 0 := sane6.2.1
  rw [sane6.1] at o6
  rw [e62]
  obtain ⟨q, u, rfl, jn6, hj6⟩ := o6
  have e21 : (appendJ (openJ newA 3).2.2 3 ⟨[], 0, false⟩ [97, 98]).1 = 0 := sane2
  have e31 : (appendJ sJ2.2.1 3 sJ2.2.2 []).1 = 0 := sane3.1
  rw [e21, e31]
  have jp6 := jn5.step t6
  rw [sane3.2] at jp6
  have t06 : JSt w2 b h2 p v w6 h6 v4 := t3.trans (t4.trans ((JSt.of_step t5).trans (JSt.of_step t6)))
  have bb2 : Below w.heap.size w1 w2 := below_of_step t2 o1 b1.size
  have ho2 := own_step t2 o1 b1.size
  have bb6 : Below w.heap.size w2 w6 := below_of_jst t06 ho2 (fun i hi => Nat.le_trans b1.size (hj2 i hi)) (Nat.le_trans b1.size bb2.size)
  have bb := b1.trans (bb2.trans bb6)
  repeat (any_goals (first
  | (with_reducible ((refine idCond ?_); refine yM ?_))
  | ((with_reducible refine idO ?_); (with_reducible refine oM_gen fun Kv hK=>?_); simp [go_sem]; refine hK _ _ ?_; clear hK; clear Kv)))
  refine Sum_ok [] (by decide) ?_
  rw [saneS.1]
  repeat (any_goals (first
  | (with_reducible ((refine idGd ?_); refine zA ?_))
  | ((with_reducible refine idO ?_); (with_reducible refine oM_gen fun Kv hK=>?_); simp [go_sem]; refine hK _ _ ?_; clear hK; clear Kv)))
  refine Sum_ok [97] (by decide) ?_
  rw [saneS.2.1]
  repeat (any_goals (first
  | (with_reducible first|((refine idGd ?_); refine zA ?_)|((refine idPick ?_); refine yB ?_))
  | ((with_reducible refine idO ?_); (with_reducible refine oM_gen fun Kv hK=>?_); simp [go_sem]; refine hK _ _ ?_; clear hK; clear Kv)))
  refine Sum_ok [97, 98] (by decide) ?_
  rw [saneS.2.2]
  repeat (any_goals (first
  | (with_reducible first|refine pureM_in ?_|((refine idGd ?_); refine zA ?_)|((refine idPick ?_); refine yB ?_))
  | ((with_reducible refine idO ?_); (with_reducible refine oM_gen fun Kv hK=>?_); simp [go_sem]; refine hK _ _ ?_; clear hK; clear Kv)))
  refine len_ok jp6 ?_
  repeat (any_goals (first
  | (with_reducible first|refine pureM_in ?_|((refine idGd ?_); refine zA ?_)|((refine idPick ?_); refine yB ?_))
  | ((with_reducible refine idO ?_); (with_reducible refine oM_gen fun Kv hK=>?_); simp [go_sem]; refine hK _ _ ?_; clear hK; clear Kv)))
  refine get_ok jp6 0 ?_
  repeat (any_goals (first
  | (with_reducible first|refine pureM_in ?_|((refine idGd ?_); refine zA ?_)|((refine idPick ?_); refine yB ?_))
  | ((with_reducible refine idO ?_); (with_reducible refine oM_gen fun Kv hK=>?_); simp [go_sem]; refine hK _ _ ?_; clear hK; clear Kv)))
  refine all_ok jn6 (fun av w7 ho7 b7 => ?_)
  repeat (any_goals (first
  | (with_reducible ((refine idGd ?_); refine zA ?_))
  | ((with_reducible refine idO ?_); (with_reducible refine oM_gen fun Kv hK=>?_); simp [go_sem]; refine hK _ _ ?_; clear hK; clear Kv)))
  have hb8 : Below w7.heap.size w7 (w7.alloc (.cells #[.string ⟨#[97, 98]⟩] 9)) := (Below.refl _ _).alloc (Nat.le_refl _) _
  have hn8 := heap_alloc_new w7 (.cells #[.string ⟨#[97, 98]⟩] 9)
  have hlt8 : w7.heap.size < (w7.alloc (.cells #[.string ⟨#[97, 98]⟩] 9)).heap.size := by rw [alloc_size]; omega
  generalize w7.alloc (.cells #[.string ⟨#[97, 98]⟩] 9) = w8 at *
  have r7 : Cd.RowOf Cd.strV w8 av [[97, 98]] := (Cd.RowOf.of_owns ho7).below hb8
  have r8 : Cd.RowOf Cd.strV w8 (.slice (some ⟨w7.heap.size, 0, none⟩) 1 1) [[97, 98]] := ⟨_, 1, rfl, .inr ⟨_, 0, rfl, hlt8, fun i hi => by
    rw [cell_of_block hn8]
    match i, hi with
    | 0, _ => rfl⟩⟩
  refine Cd.sameTexts_ok _ _ _ _ r7 r8 (by decide) (by decide) (fun w9 b9 => ?_)
  simp only [decide_true]
  have s9 := ((s6.below b7).below hb8).below b9
  repeat (any_goals (with_reducible first|refine pureM_in ?_|((refine idGd ?_); refine zA ?_)|((refine idPick ?_); refine yB ?_)))
  refine size_ok s9.d 4 ?_
  have e63 : (sJ6.2.2.F 4).1.length = 9 := sane6.2.2
  rw [e63]
  repeat (any_goals (first
  | (with_reducible first|((refine idGd ?_); refine zA ?_)|((refine idPick ?_); refine yB ?_))
  | ((with_reducible refine idO ?_); (with_reducible refine oM_gen fun Kv hK=>?_); simp [go_sem]; refine hK _ _ ?_; clear hK; clear Kv)))
  refine k _ ?_
  have z1 := b1.size
  have z2 := bb2.size
  have z6 := bb6.size
  have z7 := b7.size
  have z8 := hb8.size
  exact bb.trans ((b7.mono (by omega)).trans ((hb8.mono (by omega)).trans (b9.mono (by omega))))
end
end Go.Proofs
namespace Go.Proofs
open Go Go.Sh Go.RowKit CodeSpec JnSpec DkSpec
set_option linter.unusedSimpArgs false
set_option linter.unusedVariables false
set_option maxRecDepth 10000
def RowN {α : Type} (mk : α → List Value) (N : Nat) (w : World) (v : Value) (l : List α) : Prop :=
  ∃ ad c, v = .slice ad l.length c ∧ (ad = none → l.length = 0 ∧ c = 0) ∧ (l = [] ∨ ∃ b o, ad = some ⟨b, o, none⟩ ∧ b < N ∧ ∀ (k : Nat) (x : Value), (flat mk l)[k]? = some x → w.cell? ⟨b, o + k, none⟩ = some x)
theorem RowN.row {α : Type} {mk : α → List Value} {N sz : Nat} {w : World} {v : Value} {l : List α} (h : RowN mk N w v l) (hN : N ≤ w.heap.size) : RowR mk sz w v l := by
  obtain ⟨ad, c, h1, h2, h3⟩ := h
  exact ⟨ad, c, h1, h2, h3.imp id (fun ⟨b, o, h4, h5, h6⟩ => ⟨b, o, h4, by omega, h6⟩)⟩
theorem RowN.below {α : Type} {mk : α → List Value} {N : Nat} {w w' : World} {v : Value} {l : List α} (h : RowN mk N w v l) (hb : Below N w w') : RowN mk N w' v l := by
  obtain ⟨ad, c, h1, h2, h3⟩ := h
  exact ⟨ad, c, h1, h2, h3.imp id (fun ⟨b, o, h4, h5, h6⟩ => ⟨b, o, h4, h5, fun k x hk => by rw [hb.cell h5]; exact h6 k x hk⟩)⟩
section
variable {n : Nat} {w w1 : World}
theorem below_fr {S : Nat → Prop} (f : Fr S w w1) (hs : ∀ i, i < w.heap.size → S i → n ≤ i) (hn : n ≤ w.heap.size) : Below n w w1 :=
  ⟨f.os, f.tape, f.output, f.size, fun k hk => f.block k (by omega) (fun hS => by have := hs k (by omega) hS; omega)⟩
theorem below_none (f : Fr (fun _ => False) w w1) : Below w.heap.size w w1 := below_fr f (fun _ _ h => h.elim) (Nat.le_refl _)
end
end Go.Proofs
namespace Go.Sh
open Go Go.RowKit
section
variable {P : Program} {w w' : World} {K : Value → World → Prop}
theorem owns_up {B C : Nat} {e : TypeId} {sz : Nat} {v : Value} {n : Nat} {xs : List Value} (h : w.ownsRow B e sz v n xs) (hv : ∀ i, v.ownBlock = some i → C ≤ i) : w.ownsRow C e sz v n xs :=
  ⟨h.1, h.2.imp id (fun ⟨g, cap, cur, a, b, r⟩ => ⟨g, cap, cur, a, hv g (by rw [a]; rfl), r⟩)⟩
theorem append_zero (t T e : TypeId) (i : TypeInfo) (z : Value) (size bytes : Nat) (ht : P.underlying t = some (.slice e)) (hi : P.info? e = some i) (hz : i.zero = some z)
    (hsize : i.size = size) (hby : i.bytes = bytes) (hzs : z.cells.size = size) (hsz : 0 < size)
    {B g : Nat} (hB : B ≤ w.heap.size) (hown : w.ownsRow B e size (.slice (some ⟨g, 0, none⟩) 0 0) 0 [])
    {ad : Option Addr} {m c : Nat} (news : List Value) (hl : news.length = m * size) (had : ad = none → m = 0 ∧ c = 0) (hnews : ∀ a, ad = some a → ∀ j u, news[j]? = some u → w.cell? (a.add j) = some u) (h1 : ∀ u ∈ news, u.oneCell' = true)
    (h63 : m ≤ maxLen) (hbytes : m * bytes ≤ 140737488355328)
    (k : ∀ v' w', w'.ownsRow B e size v' m news → Below w.heap.size w w' → (∀ i, v'.ownBlock = some i → i = g ∨ w.heap.size ≤ i) → K v' w') :
    oM P (.call { callee := .builtin .append, args := #[.tmp 0, .tmp 1], argTypes := #[t, t] }) T [.slice (some ⟨g, 0, none⟩) 0 0, .slice ad m c] K w := by
  rw [oM_append]
  cases ad with
  | none =>
    obtain ⟨rfl, rfl⟩ := had rfl
    have hn : news = [] := List.eq_nil_of_length_eq_zero (by simpa using hl)
    subst hn
    rw [run_append_owned_none (P := P) (w := w) B t T e i size ht hi _ 0 [] hown]
    exact k _ w hown (Below.refl _ _) (fun i h => by cases h; exact .inl rfl)
  | some a =>
    have hown0 := owns_base hown (Nat.zero_le _)
    obtain ⟨v', w', hr, h2, h3, h4⟩ := run_append_more (P := P) (w := w) t T e i z size bytes ht hi hz hsize hby hzs hsz _ 0 [] hown0 a m c news hl (hnews a rfl) h1 (by rw [Nat.zero_add]; exact h63) (by rw [Nat.zero_add]; exact hbytes)
    rw [Nat.zero_add, List.nil_append] at h2
    rw [hr]
    subst hsize
    by_cases hm : m = 0
    · subst hm
      have hn : news = [] := List.eq_nil_of_length_eq_zero (by simpa using hl)
      subst hn
      have e1 : (Builtin.append_ #[t, t] T #[.slice (some ⟨g, 0, none⟩) 0 0, .slice (some a) 0 c]).run P w = .ok (.slice (some ⟨g, 0, none⟩) 0 0) w := by
        simp [Builtin.append_, run_underlying ht, sizeOf, typeInfo, hi, Builtin.lenOf, storeCells, Builtin.firstCells, go_sem]
      rw [e1] at hr
      cases hr
      exact k _ w hown (Below.refl _ _) (fun i h => by cases h; exact .inl rfl)
    · have hr2 := run_append_grow (P := P) (w := w) t T e i z ht hi hz ⟨g, 0, none⟩ 0 0 [] (by simp) (by simp) a m c news hl (hnews a rfl) (by omega) (by simp only [maxLen] at h63; omega) (growslice_fits (by omega) (by rw [hby, Nat.zero_add]; exact hbytes))
      rw [hr] at hr2
      cases hr2
      refine k _ _ (owns_up h2 (fun i h => by cases h; exact hB)) ?_ (fun i h => by cases h; exact .inr (Nat.le_refl _))
      exact ((Below.refl w.heap.size w).drew).alloc (Nat.le_refl _) _
end
end Go.Sh
namespace JnSpec
open CodeSpec DkSpec
def stopR (a : Bytes × Rd) (b : Int × Rd) : Prop := b.2.bad = true ∨ 20000 < a.1.length ∨ b.1 ≠ sumR a.1
instance (a : Bytes × Rd) (b : Int × Rd) : Decidable (stopR a b) := by unfold stopR; infer_instance
theorem first_bad {s : Bytes} (h : (rdNum (rdText ⟨s, false⟩).2).2.bad = true) : first s = none := by
  cases hf : first s with
  | none => rfl
  | some t =>
    obtain ⟨h1, h2⟩ := first_some hf
    rw [h2] at h
    have h3 := rdText_enc t (encNum (sumR t) ++ s.drop (form t).length) (by omega)
    have h4 := sumR_InR (s := t) (by omega)
    have h5 := rdNum_enc (sumR t) h4.1 h4.2 (s.drop (form t).length)
    have e : form t ++ s.drop (form t).length = encText t ++ (encNum (sumR t) ++ s.drop (form t).length) := by simp [form]
    rw [e, h3] at h
    dsimp only at h
    rw [h5] at h
    cases h
theorem stop_first {s : Bytes} (h : stopR (rdText ⟨s, false⟩) (rdNum (rdText ⟨s, false⟩).2)) : first s = none := by
  rcases h with h | h | h
  · exact first_bad h
  · unfold first
    rw [if_pos (.inl h)]
  · unfold first
    rw [if_pos (.inr (.inl h))]
theorem go_first {s : Bytes} (h : ¬ stopR (rdText ⟨s, false⟩) (rdNum (rdText ⟨s, false⟩).2)) : first s = some (rdText ⟨s, false⟩).1 ∧ (rdNum (rdText ⟨s, false⟩).2).2 = ⟨s.drop (form (rdText ⟨s, false⟩).1).length, false⟩ := by
  unfold stopR at h
  have hb : (rdNum (rdText ⟨s, false⟩).2).2.bad = false := by
    cases hc : (rdNum (rdText ⟨s, false⟩).2).2.bad with
    | false => rfl
    | true => exact absurd (.inl hc) h
  have hl : ¬ 20000 < (rdText ⟨s, false⟩).1.length := fun e => h (.inr (.inl e))
  have hn : (rdNum (rdText ⟨s, false⟩).2).1 = sumR (rdText ⟨s, false⟩).1 := Classical.not_not.1 (fun e => h (.inr (.inr e)))
  rcases rdText_some ⟨s, false⟩ Rd.ok_good with h1 | ⟨t, u, h1, h2, h3⟩
  · rw [h1] at hb
    rcases rdNum_some failed (by unfold Rd.ok failed; simp) with h4 | ⟨n, v, h4, h5, _⟩
    · rw [h4] at hb; cases hb
    · have := congrArg Rd.bad h5
      cases this
  · rw [h1] at hb hn hl ⊢
    dsimp only at hb hn hl ⊢
    rcases rdNum_some ⟨u, false⟩ Rd.ok_good with h4 | ⟨n, v, h4, h5, h6, h7⟩
    · rw [h4] at hb; cases hb
    · rw [h4] at hn ⊢
      dsimp only at hn ⊢
      have e0 : ¬ n < 0 := by omega
      have e1 : u = encInt n ++ v := congrArg Rd.rest h5
      have e2 : s = encText t ++ u := congrArg Rd.rest h2
      have e3 : s = form t ++ v := by
        rw [e2, e1, hn]
        unfold form encNum
        rw [if_neg (by omega)]
        simp
      refine ⟨?_, by rw [e3]; simp⟩
      rw [e3]
      exact first_form (by omega) v
end JnSpec
namespace Go.Proofs
open Go Go.Sh Go.RowKit CodeSpec JnSpec DkSpec
set_option linter.unusedSimpArgs false
set_option linter.unusedVariables false
set_option maxRecDepth 10000
attribute [local go_sem] oM_indexAddr
section
variable {K : Value → World → Prop} {w w0 : World}
theorem rSum_ok (s : List UInt8) (hs : s.length ≤ 16777216) (k : K (.int .i64 (sumR s)) w) : callM Tryz.prog 11 #[.string ⟨s.toArray⟩] K w := by
  apply sh_11_ok
  unfold sh_11
  refine ⟨fun vs w' => w = w' ∧ ∃ i : Nat, vs = [.int .i64 (sumR (s.take i)), .int .i64 (i : Int)] ∧ i ≤ s.length, fun vs _ => match vs with | [_, .int _ i] => s.length - i.toNat | _ => 0, ⟨rfl, 0, rfl, by omega⟩, ?_⟩
  rintro _ _ w1 ⟨rfl, i, rfl, hi⟩
  unfold loop_11_1
  simp only [List.getD_cons_zero, List.getD_cons_succ]
  by_cases hin : i = s.length
  · rw [List.take_of_length_le (by omega)]
    repeat (any_goals (first
    | (with_reducible ((refine idCond ?_); refine yO ?_))
    | ((with_reducible refine idO ?_); (with_reducible refine oM_gen fun Kv hK=>?_); simp [go_sem]; refine hK _ _ ?_; clear hK; clear Kv)))
    exact k
  have hlt : i < s.length := by omega
  have hb := sum_take_bound hs (i + 1)
  have hb0 := sum_take_bound hs i
  rw [sum_take s i hlt] at hb
  repeat (any_goals (first
  | (with_reducible ((refine idCond ?_); refine yN ?_))
  | ((with_reducible refine idO ?_); (with_reducible refine oM_gen fun Kv hK=>?_); simp [go_sem]; (try simp (disch := omega) only [wrapI64, wrapU8, wrapU32, wrapU64]); (first|refine hK _ _ ?_|refine And.intro (by omega) (hK _ _ ?_)); clear hK; clear Kv)))
  have ec : s[i]?.getD 0 = s[i] := by rw [List.getElem?_eq_getElem hlt]; rfl
  have hst := sum_take s i hlt
  rw [ec]
  have hc := s[i].toNat_lt
  generalize s[i].toNat = c at *
  have hp : 0 ≤ (c : Int) * ((i : Int) + 1) := Int.mul_nonneg (by omega) (by omega)
  have e1 : IntKind.i64.wrap (c : Int) = c := by rw [wrapI64] <;> omega
  rw [e1]
  generalize (c : Int) * ((i : Int) + 1) = p at *
  have e2 : IntKind.i64.wrap p = p := by rw [wrapI64] <;> omega
  rw [e2]
  have e3 : IntKind.i64.wrap (sumR (s.take i) + p) = sumR (s.take i) + p := by rw [wrapI64] <;> omega
  rw [e3, ← hst]
  refine ⟨⟨rfl, i + 1, rfl, by omega⟩, by simp; omega⟩
theorem rForm_ok (s : List UInt8) (hs : s.length ≤ 16777216) (k : ∀ w', Below w.heap.size w w' → K (.string ⟨(form s).toArray⟩) w') : callM Tryz.prog 41 #[.string ⟨s.toArray⟩] K w := by
  apply sh_41_ok
  unfold sh_41
  refine Cd.qText_ok s (by omega) (fun w1 h1 => ?_)
  refine rSum_ok s hs ?_
  refine Cd.qNum_ok (sumR s) (sumR_InR hs).1 (fun w2 h2 => ?_)
  have h1l := Cd.encText_len s (by omega)
  have h3 := form_len hs
  have h4 : (form s).length = (encText s).length + (encNum (sumR s)).length := by simp [form]
  repeat (any_goals ((with_reducible refine idO ?_); (with_reducible refine oM_gen fun Kv hK=>?_); simp [go_sem]; refine And.intro (by omega) (hK _ _ ?_); clear hK; clear Kv))
  exact Cd.K_eq (k _ (h1.trans (h2.mono h1.size))) (by simp [form])
theorem forms_take (l : List Bs) (i : Nat) (hi : i < l.length) : formL (l.take (i + 1)) = formL (l.take i) ++ form l[i] := by
  rw [List.take_succ_eq_append_getElem hi, formL_append]; simp [formL]
theorem forms_le (l : List Bs) (i : Nat) : (formL (l.take i)).length ≤ (formL l).length := by
  have := congrArg (fun x => (formL x).length) (List.take_append_drop i l)
  simp only [formL_append, List.length_append] at this
  omega
theorem rForms_ok {v : Value} {l : List Bs} {B : Nat} (ho : w.ownsRow B 9 1 v l.length (l.map Cd.strV)) (hf : Few l) (hb : (formL l).length ≤ 16777216) (hl : l.length ≤ 16777216) (k : ∀ w', Below w.heap.size w w' → K (.string ⟨(formL l).toArray⟩) w') : callM Tryz.prog 38 #[v] K w := by
  apply sh_38_ok
  unfold sh_38
  refine ⟨fun vs w' => ∃ i : Nat, vs = [.string ⟨(formL (l.take i)).toArray⟩, .int .i64 (i : Int)] ∧ i ≤ l.length ∧ Below w.heap.size w w', fun vs _ => match vs with | [_, .int _ i] => l.length - i.toNat | _ => 0, ⟨0, rfl, by omega, Below.refl _ _⟩, ?_⟩
  rintro _ _ w1 ⟨i, rfl, hi, hb1⟩
  unfold loop_38_1
  simp only [List.getD_cons_zero, List.getD_cons_succ]
  obtain ⟨va, vc, hve⟩ := owns_len ho
  by_cases hlt : i < l.length
  · obtain ⟨ad, c, e, hc⟩ := Cd.RowOf.of_owns ho
    rw [e]
    rcases hc with hc | ⟨gb, go, rfl, hgb, hc⟩
    · rw [hc] at hlt; simp at hlt
    have hix := Cd.idx23 (b := gb) (o := go) (c := c) hlt w1
    have hcn := hc i hlt
    rw [← hb1.cell hgb] at hcn
    simp only [Cd.strV] at hcn
    have hfi := hf _ (List.getElem_mem hlt)
    repeat (any_goals (first
    | (with_reducible ((refine idCond ?_); refine yN ?_))
    | ((with_reducible refine idO ?_); (with_reducible refine oM_gen fun Kv hK=>?_); simp [go_sem, hix, hcn]; refine hK _ _ ?_; clear hK; clear Kv)))
    refine rForm_ok l[i] (by omega) (fun w2 hb2 => ?_)
    have e1 := forms_take l i hlt
    have e2 := forms_le l (i + 1)
    have e3 := congrArg List.length e1
    rw [List.length_append] at e3
    repeat (any_goals ((with_reducible refine idO ?_); (with_reducible refine oM_gen fun Kv hK=>?_); simp [go_sem]; (try simp (disch := omega) only [wrapI64, wrapU8, wrapU32, wrapU64]); (first|refine hK _ _ ?_|refine And.intro (by omega) (hK _ _ ?_)); clear hK; clear Kv))
    refine ⟨⟨i + 1, by rw [e1]; rfl, hlt, hb1.trans (hb2.mono hb1.size)⟩, by simp; omega⟩
  · rw [hve]
    rw [List.take_of_length_le (by omega)]
    repeat (any_goals (first
    | (with_reducible ((refine idCond ?_); refine yO ?_))
    | ((with_reducible refine idO ?_); (with_reducible refine oM_gen fun Kv hK=>?_); simp [go_sem]; refine hK _ _ ?_; clear hK; clear Kv)))
    exact k w1 hb1
def qmu (b : Nat) (w : World) : Nat := match w.cell? ⟨b, 0, none⟩ with | some (.string s) => s.size | _ => 0
theorem qmu_eq {b : Nat} {r : Rd} (h : Cd.IsQd w b r) : qmu b w = r.rest.length := by
  unfold qmu
  rw [h.c0]
  show r.rest.toArray.size = _
  simp
theorem rRecords_ok (s : List UInt8) (hs : s.length ≤ 16777216) (k : ∀ v w', w'.ownsRow w.heap.size 9 1 v (readJ s).1.length ((readJ s).1.map Cd.strV) → Below w.heap.size w w' → K v w') : callM Tryz.prog 37 #[.string ⟨s.toArray⟩] K w := by
  apply sh_37_ok
  unfold sh_37
  refine Cd.qopen_ok s (fun w0 hr0 hb0 => ?_)
  refine ⟨fun vs w' => ∃ (xs : List Bs) (t : Bs), w'.ownsRow w.heap.size 9 1 (vs.getD 3 undef) xs.length (xs.map Cd.strV) ∧ Below w.heap.size w w' ∧ Cd.IsQd w' w.heap.size ⟨t, false⟩ ∧ (readJ s).1 = xs ++ (readJ t).1 ∧ xs.length + t.length ≤ s.length ∧ (vs.getD 3 undef).ownBlock ≠ some w.heap.size, fun _ w' => qmu w.heap.size w',
    ⟨[], s, World.ownsRow_nil _ _ _ _, hb0, hr0, rfl, by simp, (fun h => by cases h)⟩, ?_⟩
  rintro l4 _ w1 ⟨xs, t, ho1, hb1, hr1, hrd, hlen, hne⟩
  unfold loop_37_2
  generalize l4.getD 3 undef = v at *
  have hz1 := hb1.size
  have hsz := readJ_spec s
  refine Cd.qleft_ok _ _ hr1 ?_
  dsimp only
  by_cases ht : t = []
  · subst ht
    rw [readJ_none first_nil, List.append_nil] at hrd
    rw [← hrd] at ho1
    repeat (any_goals (first
    | (with_reducible ((refine idCond ?_); refine yM ?_))
    | ((with_reducible refine idO ?_); (with_reducible refine oM_gen fun Kv hK=>?_); simp [go_sem]; refine hK _ _ ?_; clear hK; clear Kv)))
    exact k v w1 ho1 hb1
  have htl : 0 < t.length := List.length_pos_iff.2 ht
  repeat (any_goals (first
  | (with_reducible ((refine idCond ?_); refine yN ?_))
  | ((with_reducible refine idO ?_); (with_reducible refine oM_gen fun Kv hK=>?_); simp [go_sem]; refine hK _ _ ?_; clear hK; clear Kv)))
  refine Cd.qtext_ok _ _ (by dsimp only; omega) Rd.ok_good hr1 (fun w2 hr2 hg2 => ?_)
  have hrt := rdText_rest_le t
  have htt := rdText_le t
  refine Cd.qnum_ok _ _ (by omega) hr2 (fun w3 hr3 hg3 => ?_)
  have hb3 : Below w.heap.size w w3 := hb1.trans ((Cd.below_of_grown hg2 hz1 (fun k hk => by cases hk; exact Nat.le_refl _)).trans (Cd.below_of_grown hg3 (Nat.le_trans hz1 hg2.size) (fun k hk => by cases hk; exact Nat.le_refl _)))
  have ho3 : w3.ownsRow w.heap.size 9 1 v xs.length (xs.map Cd.strV) := owns_keep ho1 (fun i hi => by
    have hlt := (owns_own ho1 hi).1
    have hni : i ≠ w.heap.size := fun e => hne (by rw [← e]; exact hi)
    rw [hg3.block i (Nat.lt_of_lt_of_le hlt hg2.size) (fun e => hni (by cases e; rfl)), hg2.block i hlt (fun e => hni (by cases e; rfl))])
  have c1 := hr3.c1
  have hst := stop_first (s := t)
  have hgo := go_first (s := t)
  have fin : stopR (rdText ⟨t, false⟩) (rdNum (rdText ⟨t, false⟩).2) → K v w3 := fun h => by
    rw [readJ_none (hst h), List.append_nil] at hrd
    rw [← hrd] at ho3
    exact k v w3 ho3 hb3
  obtain ⟨a, ea⟩ : ∃ a, a = rdText ⟨t, false⟩ := ⟨_, rfl⟩
  obtain ⟨n, en⟩ : ∃ n, n = rdNum (rdText ⟨t, false⟩).2 := ⟨_, rfl⟩
  rw [← ea] at en
  rw [← ea, ← en] at c1 fin hgo hr3 ⊢
  rw [← ea] at htt hrt
  unfold stopR at fin hgo
  cases hbad : n.2.bad with
  | true =>
    rw [hbad] at c1
    repeat (any_goals (first
    | (with_reducible first|((refine idGd ?_); refine zD ?_)|((refine idPick ?_); refine yB ?_)|((refine idCond ?_); refine yL ?_))
    | ((with_reducible refine idO ?_); (with_reducible refine oM_gen fun Kv hK=>?_); simp [go_sem, c1]; refine hK _ _ ?_; clear hK; clear Kv)))
    exact fin (.inl hbad)
  | false =>
    rw [hbad] at c1
    by_cases h2 : 20000 < a.1.length
    · repeat (any_goals (first
      | (with_reducible first|refine pureM_in ?_|((refine idGd ?_); first|refine zC ?_|((refine idGdD ?_); refine zJ ?_))|((refine idPick ?_); first|refine yC ?_|refine yD ?_)|((refine idCond ?_); refine yL ?_))
      | ((with_reducible refine idO ?_); (with_reducible refine oM_gen fun Kv hK=>?_); simp [go_sem, c1]; refine hK _ _ ?_; clear hK; clear Kv)))
      exact fin (.inr (.inl h2))
    · repeat (any_goals (first
      | (with_reducible first|refine pureM_in ?_|((refine idGd ?_); first|refine zC ?_|((refine idGdD ?_); refine zI ?_))|((refine idPick ?_); refine yC ?_))
      | ((with_reducible refine idO ?_); (with_reducible refine oM_gen fun Kv hK=>?_); simp [go_sem, c1]; refine hK _ _ ?_; clear hK; clear Kv)))
      refine rSum_ok a.1 (by omega) ?_
      by_cases h3 : n.1 = sumR a.1
      · obtain ⟨hf, hn2⟩ := hgo (by rw [hbad]; rintro (h | h | h); exact absurd h (by simp); exact h2 h; exact h h3)
        have hfs := first_some hf
        have hfp := form_pos a.1
        have hfl := congrArg List.length hfs.2
        rw [List.length_append] at hfl
        rw [readJ_some hf] at hrd
        dsimp only at hrd
        repeat (any_goals (first
        | (with_reducible first|((refine idGd ?_); ((refine idGdD ?_); refine zI ?_))|((refine idPick ?_); refine yE ?_)|((refine idCond ?_); refine yR ?_))
        | ((with_reducible refine idO ?_); (with_reducible refine oM_gen fun Kv hK=>?_); simp [go_sem]; refine hK _ _ ?_; clear hK; clear Kv)))
        have hb5 : Below w3.heap.size w3 (w3.alloc (.cells #[.string ⟨a.1.toArray⟩] 9)) := (Below.refl _ _).alloc (Nat.le_refl _) _
        have hn5 := heap_alloc_new w3 (.cells #[.string ⟨a.1.toArray⟩] 9)
        have ho5 : (w3.alloc (.cells #[.string ⟨a.1.toArray⟩] 9)).ownsRow w.heap.size 9 1 v xs.length (xs.map Cd.strV) := owns_keep ho3 (fun i hi => hb5.block i (owns_own ho3 hi).1)
        have hr5 : Cd.IsQd (w3.alloc (.cells #[.string ⟨a.1.toArray⟩] 9)) w.heap.size n.2 := hr3.below hb5 hr3.lt
        generalize w3.alloc (.cells #[.string ⟨a.1.toArray⟩] 9) = w5 at *
        have hz3 := hb3.size
        have hz5 := hb5.size
        refine append_at 46 46 9 Tryz.t9 (.string ⟨#[]⟩) 1 16 Tryz.underlying46 (by kernel_rfl) (by kernel_rfl) (by kernel_rfl) (by kernel_rfl) rfl (by omega) (owns_zero ho5) [Cd.strV a.1] rfl (fun e => by cases e) (fun ad ha i u hu => by
          cases ha
          rw [Cd.addr_add, Nat.zero_add, cell_of_block hn5]
          match i, hu with
          | 0, hu => exact hu
          | i + 1, hu => simp at hu) (by intro u hu; simp only [List.mem_singleton] at hu; subst hu; rfl) (by unfold maxLen; omega) (by omega) (fun v6 w6 ho6 hg6 hv6 => ?_)
        have hb6 : Below w.heap.size w w6 := (hb3.trans (hb5.mono hz3)).trans (Cd.below_of_grown hg6 (by omega) (fun i hi => (owns_own ho5 hi).2.1))
        have hr6 : Cd.IsQd w6 w.heap.size n.2 := (hg6.block _ hr5.lt (fun e => hne e.symm)).trans hr5
        rw [hn2] at hr6
        refine ⟨⟨xs ++ [a.1], t.drop (form a.1).length, ?_, hb6, hr6, ?_, ?_, ?_⟩, ?_⟩
        · simp only [List.getD_cons_zero, List.getD_cons_succ]
          have := owns_up ho6 (C := w.heap.size) (fun i hi => (hv6 i hi).elim (fun e => (owns_own ho5 e).2.1) (fun e => by omega))
          simpa using this
        · rw [hrd]; simp
        · simp only [List.length_append, List.length_singleton, List.length_drop]; omega
        · simp only [List.getD_cons_zero, List.getD_cons_succ]
          exact fun h => (hv6 _ h).elim (fun e => hne e) (fun e => by have := hr5.lt; omega)
        · rw [qmu_eq hr6, qmu_eq hr1]
          simp only [List.length_drop]; omega
      · repeat (any_goals (first
        | (with_reducible first|((refine idGd ?_); ((refine idGdD ?_); refine zI ?_))|((refine idPick ?_); refine yE ?_)|((refine idCond ?_); refine yQ ?_))
        | ((with_reducible refine idO ?_); (with_reducible refine oM_gen fun Kv hK=>?_); simp [go_sem]; refine hK _ _ ?_; clear hK; clear Kv)))
        exact fin (.inr (.inr h3))
end
end Go.Proofs
namespace Go.Proofs
open Go Go.Sh Go.RowKit DkSpec
set_option linter.unusedSimpArgs false
set_option linter.unusedVariables false
set_option maxRecDepth 10000
attribute [local go_sem] oM_indexAddr
structure Rh where
  fv : Value
  qv : Value
  kv : Value
def rfCells (A : Ab) (h : Rh) : Array Value := #[h.fv, h.qv, .int .i64 A.lost, .bool A.down, .int .i64 A.armed, h.kv]
def filC (x : Int × Bs × Bs) : List Value := [.int .i64 x.1, bsV x.2.1, bsV x.2.2]
theorem filC_len (x : Int × Bs × Bs) : (filC x).length = 3 := rfl
theorem filC_one (x : Int × Bs × Bs) : ∀ u ∈ filC x, u.oneCell' = true := by
  intro u hu
  simp [filC] at hu
  rcases hu with rfl | rfl | rfl <;> rfl
structure FilesIs (F : Int → Bs × Bs) (l : List (Int × Bs × Bs)) : Prop where
  nd : (l.map (·.1)).Nodup
  rng : ∀ x ∈ l, 0 ≤ x.1 ∧ x.1 < 16
  look : ∀ f, (lookA l f).getD ([], []) = F f
theorem FilesIs.len {F : Int → Bs × Bs} {l : List (Int × Bs × Bs)} (h : FilesIs F l) : l.length ≤ 16 := by
  have hn : (l.map (fun x => x.1.toNat)).Nodup := by
    have := nodup_map (fun x : Int => x.toNat) (l.map (·.1)) (fun a ha c hc e => by
      obtain ⟨x, hx, rfl⟩ := List.mem_map.1 ha
      obtain ⟨y, hy, rfl⟩ := List.mem_map.1 hc
      have := h.rng x hx
      have := h.rng y hy
      have e : x.1.toNat = y.1.toNat := e
      omega) h.nd
    rw [List.map_map] at this
    exact this
  have := length_lt _ 16 hn (fun x hx => by
    obtain ⟨y, hy, rfl⟩ := List.mem_map.1 hx
    have := h.rng y hy
    omega)
  simpa using this
theorem FilesIs.nil {F : Int → Bs × Bs} (h : ∀ f, F f = ([], [])) : FilesIs F [] := ⟨by simp, by simp, fun f => by rw [h]; rfl⟩
theorem FilesIs.set {F : Int → Bs × Bs} {l : List (Int × Bs × Bs)} (h : FilesIs F l) {f : Int} (hf : 0 ≤ f ∧ f < 16) (x : Bs × Bs) : FilesIs (setF F f x) (l.filter (fun y => decide (y.1 ≠ f)) ++ [(f, x)]) := by
  refine ⟨?_, ?_, ?_⟩
  · rw [List.map_append, List.nodup_append]
    refine ⟨?_, by simp, ?_⟩
    · exact (List.filter_sublist.map _).nodup h.nd
    · intro a ha c hc
      simp only [List.map_cons, List.map_nil, List.mem_singleton] at hc
      subst hc
      obtain ⟨y, hy, rfl⟩ := List.mem_map.1 ha
      have := (List.mem_filter.1 hy).2
      simpa using this
  · intro y hy
    rcases List.mem_append.1 hy with hy | hy
    · exact h.rng y (List.mem_filter.1 hy).1
    · simp only [List.mem_singleton] at hy
      subst hy; exact hf
  · intro g
    rw [lookA_append, lookA_filter (fun y : Int => decide (y ≠ f))]
    have := h.look g
    by_cases hg : g = f
    · subst hg
      simp [lookA, setF]
    · have hgf : ¬ f = g := fun e => hg e.symm
      simp only [decide_eq_true_eq]
      rw [if_pos hg, setF_ne _ _ _ _ hg, ← this]
      have : lookA [(f, x)] g = none := by simp [lookA, hgf]
      rw [this]
      cases lookA l g <;> rfl
structure IsRf (w : World) (b : Nat) (A : Ab) (h : Rh) : Prop where
  blk : w.heap[b]? = some (.cells (rfCells A h) 64 (0, 0))
  files : ∃ l, FilesIs A.F l ∧ w.ownsRow 0 84 3 h.fv l.length (flat filC l)
  que : w.ownsRow 0 82 2 h.qv A.queue.length (flat secC A.queue)
  kep : w.ownsRow 0 3 1 h.kv A.keep.length (A.keep.map i64V)
  wf : WF A
def OwnR (b : Nat) (h : Rh) (i : Nat) : Prop := i = b ∨ h.qv.ownBlock = some i
def RdbR (h : Rh) (i : Nat) : Prop := h.fv.ownBlock = some i ∨ h.kv.ownBlock = some i
structure StepR (w : World) (b : Nat) (h : Rh) (w' : World) (h' : Rh) : Prop where
  fr : Fr (OwnR b h) w w'
  own : ∀ i, OwnR b h' i → OwnR b h i ∨ w.heap.size ≤ i
  rd : ∀ i, RdbR h' i → RdbR h i ∨ w.heap.size ≤ i
theorem StepR.refl (w : World) (b : Nat) (h : Rh) : StepR w b h w h := ⟨Fr.refl _ _, fun _ h => .inl h, fun _ h => .inl h⟩
theorem StepR.trans {w w1 w2 : World} {b : Nat} {h h1 h2 : Rh} (a : StepR w b h w1 h1) (c : StepR w1 b h1 w2 h2) : StepR w b h w2 h2 :=
  ⟨a.fr.trans c.fr a.own, fun i hi => (c.own i hi).elim (a.own i) (fun h => .inr (Nat.le_trans a.fr.size h)), fun i hi => (c.rd i hi).elim (a.rd i) (fun h => .inr (Nat.le_trans a.fr.size h))⟩
section
variable {w w' : World} {b : Nat} {A : Ab} {h : Rh} {K : Value → World → Prop}
theorem IsRf.lt (d : IsRf w b A h) {i : Nat} (hi : OwnR b h i ∨ RdbR h i) : i < w.heap.size := by
  obtain ⟨l, _, hl⟩ := d.files
  rcases hi with (rfl | hi) | hi | hi
  · exact (Array.getElem?_eq_some_iff.1 d.blk).1
  · exact (owns_own d.que hi).1
  · exact (owns_own hl hi).1
  · exact (owns_own d.kep hi).1
theorem IsRf.qne (d : IsRf w b A h) {i : Nat} (hi : h.qv.ownBlock = some i) : i ≠ b ∧ h.fv.ownBlock ≠ some i ∧ h.kv.ownBlock ≠ some i := by
  obtain ⟨_, _, cur, hc⟩ := owns_own d.que hi
  obtain ⟨l, _, hl⟩ := d.files
  refine ⟨?_, ?_, ?_⟩
  · rintro rfl; rw [d.blk] at hc; cases hc
  · intro e
    obtain ⟨_, _, cur', hc'⟩ := owns_own hl e
    rw [hc] at hc'; cases hc'
  · intro e
    obtain ⟨_, _, cur', hc'⟩ := owns_own d.kep e
    rw [hc] at hc'; cases hc'
theorem IsRf.fne (d : IsRf w b A h) {i : Nat} (hi : RdbR h i) : i ≠ b ∧ h.qv.ownBlock ≠ some i := by
  obtain ⟨l, _, hl⟩ := d.files
  rcases hi with hi | hi
  · obtain ⟨_, _, cur, hc⟩ := owns_own hl hi
    refine ⟨?_, fun e => (d.qne e).2.1 hi⟩
    rintro rfl; rw [d.blk] at hc; cases hc
  · obtain ⟨_, _, cur, hc⟩ := owns_own d.kep hi
    refine ⟨?_, fun e => (d.qne e).2.2 hi⟩
    rintro rfl; rw [d.blk] at hc; cases hc
theorem IsRf.keep (d : IsRf w b A h) (hk : ∀ i, OwnR b h i ∨ RdbR h i → w'.heap[i]? = w.heap[i]?) : IsRf w' b A h := by
  obtain ⟨l, h1, h2⟩ := d.files
  refine ⟨by rw [hk b (.inl (.inl rfl))]; exact d.blk, ⟨l, h1, owns_keep h2 (fun i hi => hk i (.inr (.inl hi)))⟩, owns_keep d.que (fun i hi => hk i (.inl (.inr hi))), owns_keep d.kep (fun i hi => hk i (.inr (.inr hi))), d.wf⟩
theorem IsRf.fresh (d : IsRf w b A h) (f : Fr (fun _ => False) w w') : IsRf w' b A h := d.keep (fun i hi => f.block i (d.lt hi) (fun h => h))
theorem IsRf.heap (d : IsRf w b A h) (e : w'.heap = w.heap) : IsRf w' b A h := d.keep (fun i _ => by rw [e])
theorem StepR.fresh (f : Fr (fun _ => False) w w') : StepR w b h w' h := ⟨f.mono (fun _ _ h => h.elim), fun _ h => .inl h, fun _ h => .inl h⟩
theorem IsRf.c (d : IsRf w b A h) (i : Nat) : w.cell? ⟨b, i, none⟩ = (rfCells A h)[i]? := cell_of_block d.blk i
theorem IsRf.fz (d : IsRf w b A h) (i : Nat) : w.frozen? ⟨b, i, none⟩ = false := frozen_of_block d.blk i
theorem IsRf.cells (d : IsRf w b A h) {A' : Ab} {h' : Rh} (hF : A'.F = A.F) (hq : A'.queue = A.queue) (hk : A'.keep = A.keep) (e1 : h'.fv = h.fv) (e2 : h'.qv = h.qv) (e3 : h'.kv = h.kv) (hw : WF A') (hb : w'.heap[b]? = some (.cells (rfCells A' h') 64 (0, 0))) (ho : ∀ i, i ≠ b → w'.heap[i]? = w.heap[i]?) : IsRf w' b A' h' := by
  obtain ⟨l, h1, h2⟩ := d.files
  refine ⟨hb, ⟨l, by rw [hF]; exact h1, by rw [e1]; exact owns_keep h2 (fun i hi => ho i (d.fne (.inl hi)).1)⟩, by rw [hq, e2]; exact owns_keep d.que (fun i hi => ho i (d.qne hi).1), by rw [hk, e3]; exact owns_keep d.kep (fun i hi => ho i (d.fne (.inr hi)).1), hw⟩
theorem IsRf.set2 (d : IsRf w b A h) (n : Int) (hn : 0 ≤ n ∧ n < 2 ^ 63) : IsRf (w.setCell ⟨b, 2, none⟩ (.int .i64 n)) b { A with lost := n } h :=
  d.cells rfl rfl rfl rfl rfl rfl ⟨hn.1, hn.2, d.wf.a0, d.wf.a1, d.wf.nd, d.wf.qr, d.wf.sz, d.wf.kr, d.wf.kl⟩ (by rw [block_set d.blk]; rfl) (fun i hi => setCell_heap_ne _ _ _ _ hi)
theorem IsRf.set3 (d : IsRf w b A h) (t : Bool) : IsRf (w.setCell ⟨b, 3, none⟩ (.bool t)) b { A with down := t } h :=
  d.cells rfl rfl rfl rfl rfl rfl ⟨d.wf.l0, d.wf.l1, d.wf.a0, d.wf.a1, d.wf.nd, d.wf.qr, d.wf.sz, d.wf.kr, d.wf.kl⟩ (by rw [block_set d.blk]; rfl) (fun i hi => setCell_heap_ne _ _ _ _ hi)
theorem IsRf.set4 (d : IsRf w b A h) (n : Int) (hn : 0 ≤ n ∧ n < 2 ^ 63) : IsRf (w.setCell ⟨b, 4, none⟩ (.int .i64 n)) b { A with armed := n } h :=
  d.cells rfl rfl rfl rfl rfl rfl ⟨d.wf.l0, d.wf.l1, hn.1, hn.2, d.wf.nd, d.wf.qr, d.wf.sz, d.wf.kr, d.wf.kl⟩ (by rw [block_set d.blk]; rfl) (fun i hi => setCell_heap_ne _ _ _ _ hi)
theorem stepR_set (w : World) (b i : Nat) (h : Rh) (u : Value) : StepR w b h (w.setCell ⟨b, i, none⟩ u) h := ⟨(Fr.refl _ _).set _ _ (.inl (.inl rfl)), fun _ h => .inl h, fun _ h => .inl h⟩
theorem rmay_ok (d : IsRf w b A h) (f : Int) (k : K (.int .i64 (mayA A f)) w) : callM Tryz.prog 47 #[dkP b, .int .i64 f] K w := by
  apply rf_47_ok
  unfold rf_47
  have c3 := d.c 3
  simp only [rfCells] at c3
  unfold mayA at k
  repeat (any_goals (first
  | (with_reducible first|refine pureM_in ?_|((refine idGd ?_); ((refine idGdD ?_); first|refine zI ?_|refine zJ ?_|refine zK (fun hg=>?_) fun hg=>?_))|((refine idPick ?_); first|refine yD ?_|refine yE ?_)|((refine idCond ?_); first|refine yL ?_|refine yP (fun hg=>?_) fun hg=>?_|refine yY (fun hg=>?_) fun hg=>?_))
  | ((with_reducible refine idO ?_); (with_reducible refine oM_gen fun Kv hK=>?_); simp [go_sem, c3]; refine hK _ _ ?_; clear hK; clear Kv)))
  · rw [if_pos hg] at k; exact k
  · rename_i h1
    rw [if_neg (by rw [h1]; simp), if_pos (.inl hg)] at k; exact k
  · rename_i h1 h2
    rw [if_neg (by rw [h1]; simp), if_pos (.inr (by omega))] at k; exact k
  · rename_i h1 h2
    rw [if_neg (by rw [h1]; simp), if_neg (by omega)] at k; exact k
theorem rstart_ok (d : IsRf w b A h) (k : ∀ w', IsRf w' b (startA A) h → StepR w b h w' h → K (.tuple #[]) w') : callM Tryz.prog 23 #[dkP b] K w := by
  apply rf_23_ok
  unfold rf_23
  have c3 := d.c 3
  have f3 := d.fz 3
  simp only [rfCells] at c3
  repeat (any_goals ((with_reducible refine idO ?_); (with_reducible refine oM_gen fun Kv hK=>?_); simp [go_sem, c3, f3]; refine hK _ _ ?_; clear hK; clear Kv))
  exact k _ (d.set3 false) (stepR_set _ _ _ _ _)
theorem rlose_ok (d : IsRf w b A h) (n : Int) (hn : n < 2 ^ 63) (k : ∀ w', IsRf w' b (loseA A n) h → StepR w b h w' h → K (.tuple #[]) w') : callM Tryz.prog 17 #[dkP b, .int .i64 n] K w := by
  apply rf_17_ok
  unfold rf_17
  have c2 := d.c 2
  have f2 := d.fz 2
  simp only [rfCells] at c2
  repeat (any_goals ((with_reducible refine idO ?_); (with_reducible refine oM_gen fun Kv hK=>?_); simp [go_sem, c2, f2]; refine hK _ _ ?_; clear hK; clear Kv))
  exact k _ (d.set2 (max n 0) (by omega)) (stepR_set _ _ _ _ _)
theorem rnew_ok (k : ∀ w' b h, IsRf w' b newA h → Fr (fun _ => False) w w' → (∀ i, OwnR b h i → w.heap.size ≤ i) → (∀ i, ¬ RdbR h i) → K (dkP b) w') : callM Tryz.prog 7 #[] K w := by
  apply rf_7_ok
  unfold rf_7
  repeat (any_goals ((with_reducible refine idO ?_); (with_reducible refine oM_gen fun Kv hK=>?_); simp [go_sem]; refine hK _ _ ?_; clear hK; clear Kv))
  refine k _ w.heap.size ⟨.slice none 0 0, .slice none 0 0, .slice none 0 0⟩ ⟨?_, ⟨[], FilesIs.nil (fun f => rfl), World.ownsRow_nil _ _ _ _⟩, World.ownsRow_nil _ _ _ _, World.ownsRow_nil _ _ _ _, newA_wf⟩ ((Fr.refl _ _).alloc _) ?_ ?_
  · exact heap_alloc_new w _
  · rintro i (rfl | hi)
    · exact Nat.le_refl _
    · cases hi
  · rintro i (hi | hi) <;> cases hi
theorem rfits_ok (at_ : Int) (s : Bs) (hs : s.length < 2 ^ 60) (hat : -2 ^ 63 ≤ at_ ∧ at_ < 2 ^ 63) (k : K (.bool (decide (0 ≤ at_ ∧ at_ + s.length ≤ 16777216))) w) : callM Tryz.prog 65 #[.int .i64 at_, bsV s] K w := by
  apply rf_65_ok
  unfold rf_65
  by_cases h0 : 0 ≤ at_
  · by_cases h1 : at_ ≤ 16777216
    · repeat (any_goals (first
      | (with_reducible first|refine pureM_in ?_|((refine idGd ?_); ((refine idGdD ?_); refine zF ?_))|((refine idPick ?_); refine yD ?_))
      | ((with_reducible refine idO ?_); (with_reducible refine oM_gen fun Kv hK=>?_); simp [go_sem]; (try simp (disch := omega) only [wrapI64, wrapU8, wrapU32, wrapU64]); refine hK _ _ ?_; clear hK; clear Kv)))
      have e : decide (at_ + (s.length : Int) ≤ 16777216) = decide (0 ≤ at_ ∧ at_ + (s.length : Int) ≤ 16777216) := decide_eq_decide.2 (by omega)
      rw [e]; exact k
    · repeat (any_goals (first
      | (with_reducible first|refine pureM_in ?_|((refine idGd ?_); ((refine idGdD ?_); first|refine zF ?_|refine zG ?_))|((refine idPick ?_); first|refine yD ?_|refine yE ?_))
      | ((with_reducible refine idO ?_); (with_reducible refine oM_gen fun Kv hK=>?_); simp [go_sem]; refine hK _ _ ?_; clear hK; clear Kv)))
      rw [decide_eq_false (by omega)] at k; exact k
  · repeat (any_goals (first
    | (with_reducible first|((refine idGd ?_); first|refine zB ?_|((refine idGdD ?_); refine zG ?_))|((refine idPick ?_); first|refine yC ?_|refine yE ?_))
    | ((with_reducible refine idO ?_); (with_reducible refine oM_gen fun Kv hK=>?_); simp [go_sem]; refine hK _ _ ?_; clear hK; clear Kv)))
    rw [decide_eq_false (by omega)] at k; exact k
end
end Go.Proofs
namespace Go.Proofs
open Go Go.Sh Go.RowKit DkSpec
set_option linter.unusedSimpArgs false
set_option linter.unusedVariables false
set_option maxRecDepth 10000
attribute [local go_sem] oM_indexAddr
section
variable {w w' : World} {b : Nat} {A : Ab} {h : Rh} {K : Value → World → Prop}
def filV (f : Int) (x : Bs × Bs) : Value := .agg #[.int .i64 f, bsV x.1, bsV x.2]
theorem store3_at {t T e : TypeId} {x y z : Value} {g : Nat} {cur : Array Value} (hs : ∀ w, (sizeOf t).run Tryz.prog w = .ok 3 w) (hx : x.oneCell' = true) (hy : y.oneCell' = true) (hz : z.oneCell' = true) (hg : w.heap[g]? = some (.cells cur e (0, 0))) (hfit : cur.size = 3)
    (k : ∀ w', w.grownBy w' (some g) → w'.heap[g]? = some (.cells #[x, y, z] e (0, 0)) → K undef w') : oM Tryz.prog (.store t (.tmp 0) (.tmp 1)) T [.pointer (some ⟨g, 0, none⟩), .agg #[x, y, z]] K w := by
  have hst := run_storeCells_at Tryz.prog g 0 e [x, y, z] 0 cur w hg (by simp; omega) (by
    intro v hv
    simp at hv
    rcases hv with rfl | rfl | rfl
    · exact hx
    · exact hy
    · exact hz)
  rw [oM_store]
  have hr : (Instr.storeAt t (.pointer (some ⟨g, 0, none⟩)) (.agg #[x, y, z])).run Tryz.prog w = .ok () (w.setRow g #[x, y, z]) := by
    have e1 : (cur.toList.take (0 + 0) ++ [x, y, z] ++ cur.toList.drop (0 + 0 + [x, y, z].length)).toArray = #[x, y, z] := by
      rw [List.drop_of_length_le (by simp; omega)]
      simp
    rw [e1] at hst
    have e2 : (Value.agg #[x, y, z]).cells = #[x, y, z] := rfl
    simp [Instr.storeAt, storeVar, hs, e2, go_sem]
    simpa [go_sem] using hst
  rw [hr]
  exact k _ (grown_setRow _ _ _) (setRow_heap w g _ _ e (0, 0) hg)
theorem loadVar3 {g : Nat} {x y z : Value} (hg : w.heap[g]? = some (.cells #[x, y, z] 84 (0, 0))) : (do loadVar 84 (← asAddr (.pointer (some ⟨g, 0, none⟩))) : Sem Value).run Tryz.prog w = .ok (.agg #[x, y, z]) w := by
  have := run_loadVar_row (P := Tryz.prog) w g 84 84 #[x, y, z] (0, 0) _ hg Tryz.underlying84 rfl (by kernel_rfl)
  simp only [asAddr, Sem.run_bind, Sem.run_pure, Result.andThen]
  exact this
theorem idxFil {g n c k : Nat} (hk : k < n) (w : World) : (Instr.indexAt 61 (.slice (some ⟨g, 0, none⟩) n c) (.int .i64 k)).run Tryz.prog w = .ok (.pointer (some ⟨g, k * 3, none⟩)) w := by
  rw [run_indexAt_slice (h := by kernel_rfl), if_pos (by omega)]
  have hs : (sizeOf (Tryz.prog.elem 61)).run Tryz.prog w = .ok 3 w := by kernel_rfl
  rw [hs]
  simp only [Result.andThen, Int.toNat_natCast, add_none, Nat.zero_add]
theorem idxSecR {g n c k : Nat} (hk : k < n) (w : World) : (Instr.indexAt 62 (.slice (some ⟨g, 0, none⟩) n c) (.int .i64 k)).run Tryz.prog w = .ok (.pointer (some ⟨g, k * 2, none⟩)) w := by
  rw [run_indexAt_slice (h := by kernel_rfl), if_pos (by omega)]
  have hs : (sizeOf (Tryz.prog.elem 62)).run Tryz.prog w = .ok 2 w := by kernel_rfl
  rw [hs]
  simp only [Result.andThen, Int.toNat_natCast, add_none, Nat.zero_add]
theorem fil_cells {v : Value} {l : List (Int × Bs × Bs)} (ho : w.ownsRow 0 84 3 v l.length (flat filC l)) {j : Nat} {x : Int × Bs × Bs} (hj : l[j]? = some x) : ∃ g c, v = .slice (some ⟨g, 0, none⟩) l.length c ∧ w.cell? ⟨g, j * 3, none⟩ = some (.int .i64 x.1) ∧ w.cell? ⟨g, j * 3 + 1, none⟩ = some (bsV x.2.1) ∧ w.cell? ⟨g, j * 3 + 2, none⟩ = some (bsV x.2.2) := by
  have hlt := (List.getElem?_eq_some_iff.1 hj).1
  obtain ⟨g, cap, cur, rfl, _, _, _, _, _, hc⟩ := owns_cells ho (by omega)
  refine ⟨g, cap, rfl, hc _ _ ?_, hc _ _ ?_, hc _ _ ?_⟩
  · have := flat_at filC_len l j 0 hj (by omega); simpa [filC] using this
  · have := flat_at filC_len l j 1 hj (by omega); simpa [filC] using this
  · have := flat_at filC_len l j 2 hj (by omega); simpa [filC] using this
theorem secR_cells {v : Value} {q : List (Int × Int)} (ho : w.ownsRow 0 82 2 v q.length (flat secC q)) {j : Nat} {p : Int × Int} (hj : q[j]? = some p) : ∃ g c, v = .slice (some ⟨g, 0, none⟩) q.length c ∧ w.cell? ⟨g, j * 2, none⟩ = some (.int .i64 p.1) ∧ w.cell? ⟨g, j * 2 + 1, none⟩ = some (.int .i64 p.2) := by
  have hlt := (List.getElem?_eq_some_iff.1 hj).1
  obtain ⟨g, cap, cur, rfl, _, _, _, _, _, hc⟩ := owns_cells ho (by omega)
  refine ⟨g, cap, rfl, hc _ _ ?_, hc _ _ ?_⟩
  · have := flat_at secC_len q j 0 hj (by omega); simpa [secC] using this
  · have := flat_at secC_len q j 1 hj (by omega); simpa [secC] using this
theorem loadFil {g o : Nat} {v0 v1 v2 : Value} (c0 : w.cell? ⟨g, o, none⟩ = some v0) (c1 : w.cell? ⟨g, o + 1, none⟩ = some v1) (c2 : w.cell? ⟨g, o + 2, none⟩ = some v2) : (Instr.loadAt 84 (.pointer (some ⟨g, o, none⟩))).run Tryz.prog w = .ok (.agg #[v0, v1, v2]) w := by
  refine run_loadAt_mid w g o 84 [v0, v1, v2] _ ?_ Tryz.underlying84 rfl (by kernel_rfl)
  intro j v hj
  match j, hj with
  | 0, hj => rw [← hj]; exact c0
  | 1, hj => rw [← hj]; exact c1
  | 2, hj => rw [← hj]; exact c2
theorem lookA_first {α : Type} (l : List (Int × α)) (f : Int) (i : Nat) (hi : i < l.length) (hpre : ∀ x ∈ l.take i, x.1 ≠ f) (hf : l[i].1 = f) : lookA l f = some l[i].2 := by
  have e : l = l.take i ++ l[i] :: l.drop (i + 1) := by rw [List.getElem_cons_drop, List.take_append_drop]
  have h1 : lookA (l.take i) f = none := by
    cases hq : lookA (l.take i) f with
    | none => rfl
    | some y =>
      obtain ⟨x, hx, hxf⟩ := List.mem_map.1 ((lookA_isSome (l.take i) f).1 (by rw [hq]; rfl))
      exact absurd hxf (hpre x hx)
  have h2 : lookA (l.take i ++ l[i] :: l.drop (i + 1)) f = some l[i].2 := by
    rw [lookA_append, h1, lookA_cons, if_pos hf]
    rfl
  rw [← e] at h2
  exact h2
theorem lookA_never {α : Type} (l : List (Int × α)) (f : Int) (hpre : ∀ x ∈ l, x.1 ≠ f) : lookA l f = none := by
  cases hq : lookA l f with
  | none => rfl
  | some y =>
    obtain ⟨x, hx, hxf⟩ := List.mem_map.1 ((lookA_isSome l f).1 (by rw [hq]; rfl))
    exact absurd hxf (hpre x hx)
set_option maxHeartbeats 1000000 in
theorem fget_ok (d : IsRf w b A h) (f : Int) (k : ∀ w', Fr (fun _ => False) w w' → K (filV f (A.F f)) w') : callM Tryz.prog 48 #[dkP b, .int .i64 f] K w := by
  apply rf_48_ok
  unfold rf_48
  repeat (any_goals ((with_reducible refine idO ?_); (with_reducible refine oM_gen fun Kv hK=>?_); simp [go_sem]; refine hK _ _ ?_; clear hK; clear Kv))
  have f0 : Fr (fun _ => False) w (w.alloc (.cells #[.int .i64 0, .string ⟨#[]⟩, .string ⟨#[]⟩] 84 (0, 0))) := (Fr.refl _ _).alloc _
  have n0 := heap_alloc_new w (.cells #[.int .i64 0, .string ⟨#[]⟩, .string ⟨#[]⟩] 84 (0, 0))
  generalize w.alloc (.cells #[.int .i64 0, .string ⟨#[]⟩, .string ⟨#[]⟩] 84 (0, 0)) = w0 at *
  have d0 := d.fresh f0
  have c0 := d0.c 0
  simp only [rfCells] at c0
  obtain ⟨l, hF, ho⟩ := d0.files
  obtain ⟨va, vc, hv⟩ := owns_len ho
  rw [hv] at ho
  simp only [hv] at c0
  have hl16 := hF.len
  refine ⟨fun l' w' => w' = w0 ∧ ∃ i : Nat, l' = [.int .i64 (i : Int)] ∧ i ≤ l.length ∧ ∀ x ∈ l.take i, x.1 ≠ f, fun l' _ => match l' with | [.int _ m] => ((l.length : Int) - m).toNat | _ => 0, ⟨rfl, 0, rfl, by omega, by simp⟩, ?_⟩
  rintro l' u w1 ⟨rfl, i, rfl, hi, hpre⟩
  simp only [List.getD_cons_zero]
  repeat (any_goals (first
  | (with_reducible ((refine idCond ?_); refine yP (fun hg=>?_) fun hg=>?_))
  | ((with_reducible refine idO ?_); (with_reducible refine oM_gen fun Kv hK=>?_); simp [go_sem, c0]; refine hK _ _ ?_; clear hK; clear Kv)))
  · have hlt : i < l.length := by omega
    obtain ⟨g, c, he, e0, e1, e2⟩ := fil_cells ho (List.getElem?_eq_getElem hlt)
    cases he
    have hix := idxFil (g := g) (c := vc) hlt w1
    have hld := loadFil e0 e1 e2
    repeat (any_goals (first
    | (rw [oM_load, hld, rM_ok])
    | (with_reducible ((refine idCond ?_); refine yP (fun hg=>?_) fun hg=>?_))
    | ((with_reducible refine idO ?_); (with_reducible refine oM_gen fun Kv hK=>?_); simp [go_sem, c0, hix, e0]; (try simp (disch := omega) only [wrapI64, wrapU8, wrapU32, wrapU64]); refine hK _ _ ?_; clear hK; clear Kv)))
    · have hlf : l[i].1 = f := by assumption
      refine store3_at (fun w => by kernel_rfl) rfl rfl rfl n0 rfl (fun w2 g2 n2 => ?_)
      refine ⟨_, loadVar3 n2, ?_⟩
      have hA : A.F f = l[i].2 := by rw [← hF.look f, lookA_first l f i hlt hpre hlf]; rfl
      rw [hlf]
      have := k w2 (f0.by g2 (fun j hj => by cases hj; exact .inr (Nat.le_refl _)))
      rw [hA] at this
      exact this
    · refine ⟨⟨rfl, i + 1, rfl, hlt, ?_⟩, ?_⟩
      · intro x hx
        rw [List.take_succ_eq_append_getElem hlt] at hx
        rcases List.mem_append.1 hx with hx | hx
        · exact hpre x hx
        · simp only [List.mem_singleton] at hx
          rw [hx]; assumption
      · show ((l.length : Int) - ((i : Int) + 1)).toNat < ((l.length : Int) - (i : Int)).toNat
        omega
  · rw [List.take_of_length_le (by omega)] at hpre
    have hA : A.F f = ([], []) := by rw [← hF.look f, lookA_never l f hpre]; rfl
    refine store3_at (fun w => by kernel_rfl) rfl rfl rfl n0 rfl (fun w2 g2 n2 => ?_)
    refine ⟨_, loadVar3 n2, ?_⟩
    have := k w2 (f0.by g2 (fun j hj => by cases hj; exact .inr (Nat.le_refl _)))
    rw [hA] at this
    exact this
theorem rsize_ok (d : IsRf w b A h) (f : Int) (k : ∀ w', Fr (fun _ => False) w w' → K (.int .i64 (A.F f).1.length) w') : callM Tryz.prog 29 #[dkP b, .int .i64 f] K w := by
  apply rf_29_ok
  unfold rf_29
  refine fget_ok d f (fun w1 f1 => ?_)
  unfold filV
  repeat (any_goals ((with_reducible refine idO ?_); (with_reducible refine oM_gen fun Kv hK=>?_); simp [go_sem]; refine hK _ _ ?_; clear hK; clear Kv))
  exact k w1 f1
theorem rread_ok (d : IsRf w b A h) (f at_ size : Int) (ha : -2 ^ 63 ≤ at_ ∧ at_ < 2 ^ 63) (k : ∀ w', Fr (fun _ => False) w w' → K (.tuple #[bsV (readA A f at_ size).1, .int .i64 (readA A f at_ size).2]) w') : callM Tryz.prog 28 #[dkP b, .int .i64 f, .int .i64 at_, .int .i64 size] K w := by
  apply rf_28_ok
  unfold rf_28
  refine rmay_ok d f ?_
  unfold readA at k
  have hz := (d.wf.sz f).1
  repeat (any_goals (first
  | (with_reducible first|refine pureM_in ?_|((refine idGd ?_); ((refine idGdD ?_); first|refine zI ?_|refine zJ ?_|refine zK (fun hg=>?_) fun hg=>?_))|((refine idPick ?_); first|refine yD ?_|refine yE ?_)|((refine idCond ?_); first|refine yL ?_|refine yP (fun hg=>?_) fun hg=>?_|refine yS (fun hg=>?_) fun hg=>?_))
  | ((with_reducible refine idO ?_); (with_reducible refine oM_gen fun Kv hK=>?_); simp [go_sem]; refine hK _ _ ?_; clear hK; clear Kv)))
  · rename_i h0
    rw [if_neg (by omega), if_pos (.inl hg)] at k
    exact k w (Fr.refl _ _)
  · rename_i h0
    rw [if_neg (by omega), if_pos (.inr hg)] at k
    exact k w (Fr.refl _ _)
  · rename_i h0
    rw [if_neg (by omega), if_neg (by omega)] at k
    refine fget_ok d f (fun w1 f1 => ?_)
    unfold filV
    replace k := k w1 f1
    generalize (A.F f).1 = s at *
    have hmin : IntKind.i64.wrap (at_ + min size ((s.length : Int) - at_)) = at_ + min size ((s.length : Int) - at_) := wrapI64 _ (by omega) (by omega)
    by_cases hge : (s.length : Int) ≤ at_
    · repeat (any_goals (first
      | (with_reducible ((refine idCond ?_); refine yN ?_))
      | ((with_reducible refine idO ?_); (with_reducible refine oM_gen fun Kv hK=>?_); simp [go_sem]; refine hK _ _ ?_; clear hK; clear Kv)))
      rw [List.drop_of_length_le (by omega)] at k
      simpa using k
    · repeat (any_goals (first
      | (with_reducible ((refine idCond ?_); refine yO ?_))
      | ((with_reducible refine idO ?_); (with_reducible refine oM_gen fun Kv hK=>?_); simp [go_sem, hmin]; (try simp (disch := omega) only [wrapI64, wrapU8, wrapU32, wrapU64]); (first|refine hK _ _ ?_|refine And.intro (by omega) (hK _ _ ?_)); clear hK; clear Kv)))
      have e : (⟨s.toArray⟩ : ByteArray).extract at_.toNat (at_ + min size ((s.length : Int) - at_)).toNat = ⟨((s.drop at_.toNat).take size.toNat).toArray⟩ := by
        rw [ba_ext]
        congr 2
        rw [List.take_eq_take_iff, List.length_drop]
        omega
      first | rw [e] | rw [← Cd.ba_extract, e]
      exact k
  · rw [if_pos hg] at k
    exact k w (Fr.refl _ _)
end
end Go.Proofs
namespace Go.Proofs
open Go Go.Sh Go.RowKit DkSpec
set_option linter.unusedSimpArgs false
set_option linter.unusedVariables false
set_option maxRecDepth 10000
attribute [local go_sem] oM_indexAddr
section
variable {w w' : World} {b : Nat} {A : Ab} {h : Rh} {K : Value → World → Prop}
def keepF (f : Int) (l : List (Int × Bs × Bs)) : List (Int × Bs × Bs) := l.filter (fun y => decide (y.1 ≠ f))
theorem nextF (f : Int) (l : List (Int × Bs × Bs)) (i : Nat) (hi : i < l.length) : keepF f (l.take (i + 1)) = if l[i].1 = f then keepF f (l.take i) else keepF f (l.take i) ++ [l[i]] := by
  unfold keepF
  rw [List.take_succ_eq_append_getElem hi, List.filter_append]
  by_cases hf : l[i].1 = f
  · rw [if_pos hf]; simp [hf]
  · rw [if_neg hf]; simp [hf]
set_option maxHeartbeats 1000000 in
theorem set_ok (d : IsRf w b A h) (f : Int) (hf : 0 ≤ f ∧ f < 16) (x : Bs × Bs) (hx : x.1.length ≤ 16777216 ∧ x.2.length ≤ 16777216) (k : ∀ w' h', IsRf w' b { A with F := setF A.F f x } h' → StepR w b h w' h' → K (.tuple #[]) w') : callM Tryz.prog 68 #[dkP b, filV f x] K w := by
  apply rf_68_ok
  unfold rf_68 filV
  repeat (any_goals ((with_reducible refine idO ?_); (with_reducible refine oM_gen fun Kv hK=>?_); simp [go_sem]; refine hK _ _ ?_; clear hK; clear Kv))
  have f0 : Fr (fun _ => False) w (w.alloc (.cells #[.int .i64 f, bsV x.1, bsV x.2] 84 (0, 0))) := (Fr.refl _ _).alloc _
  have n0 := heap_alloc_new w (.cells #[.int .i64 f, bsV x.1, bsV x.2] 84 (0, 0))
  have z0 := alloc_size w (.cells #[.int .i64 f, bsV x.1, bsV x.2] 84 (0, 0))
  generalize w.alloc (.cells #[.int .i64 f, bsV x.1, bsV x.2] 84 (0, 0)) = w0 at *
  have d0 := d.fresh f0
  obtain ⟨l, hF, ho⟩ := d0.files
  have hl16 := hF.len
  obtain ⟨va, vc, hv⟩ := owns_len ho
  refine ⟨fun l' w' => ∃ (v : Value) (i : Nat), l' = [v, .int .i64 (i : Int)] ∧ i ≤ l.length ∧ Fr (fun _ => False) w0 w' ∧ w'.ownsRow 0 84 3 v (keepF f (l.take i)).length (flat filC (keepF f (l.take i))) ∧ (∀ j, v.ownBlock = some j → w0.heap.size ≤ j), fun l' _ => match l' with | [_, .int _ m] => ((l.length : Int) - m).toNat | _ => 0, ⟨_, 0, rfl, by omega, Fr.refl _ _, World.ownsRow_nil _ _ _ _, fun j hj => by cases hj⟩, ?_⟩
  rintro l' u w1 ⟨v, i, rfl, hi, f1, hov, hfr⟩
  simp only [List.getD_cons_zero, List.getD_cons_succ]
  have d1 := d0.fresh f1
  have c0 := d1.c 0
  simp only [rfCells, hv] at c0
  have hz1 := f1.size
  have n1 := (f1.block w.heap.size (by omega) (fun h => h)).trans n0
  have ho1 : w1.ownsRow 0 84 3 h.fv l.length (flat filC l) := owns_keep ho (fun i hi => f1.block i (owns_own ho hi).1 (fun h => h))
  rw [hv] at ho1
  have hlen : (keepF f (l.take i)).length ≤ i := by
    have := List.length_filter_le (fun y : Int × Bs × Bs => decide (y.1 ≠ f)) (l.take i)
    unfold keepF
    rw [List.length_take] at this
    omega
  repeat (any_goals (first
  | (with_reducible ((refine idCond ?_); refine yP (fun hg=>?_) fun hg=>?_))
  | ((with_reducible refine idO ?_); (with_reducible refine oM_gen fun Kv hK=>?_); simp [go_sem, c0]; refine hK _ _ ?_; clear hK; clear Kv)))
  · have hlt : i < l.length := by omega
    obtain ⟨g, c, he, e0, e1, e2⟩ := fil_cells ho1 (List.getElem?_eq_getElem hlt)
    cases he
    have hnx := nextF f l i hlt
    refine ⟨fun l' w' => ∃ v : Value, l' = [v] ∧ Fr (fun _ => False) w0 w' ∧ w'.ownsRow 0 84 3 v (keepF f (l.take (i + 1))).length (flat filC (keepF f (l.take (i + 1)))) ∧ (∀ j, v.ownBlock = some j → w0.heap.size ≤ j), ?_, ?_⟩
    · refine quietM_one ?_
      have f2 : Fr (fun _ => False) w0 { w1 with drawn := w1.drawn + 1 } := f1.drew
      have hh : ({ w1 with drawn := w1.drawn + 1 } : World).heap = w1.heap := rfl
      generalize ({ w1 with drawn := w1.drawn + 1 } : World) = w2 at *
      rw [← cell_heap hh] at c0 e0 e1 e2
      rw [← hh] at n1
      have p0 := cell_of_block n1 0
      simp at p0
      have hix := idxFil (g := g) (c := vc) hlt w2
      have hld := loadFil e0 e1 e2
      have hov2 : w2.ownsRow 0 84 3 v (keepF f (l.take i)).length (flat filC (keepF f (l.take i))) := owns_keep hov (fun i _ => by rw [hh])
      repeat (any_goals (first
      | (rw [oM_load, hld, rM_ok])
      | (with_reducible first|refine And.intro (Eq.refl (α := World) _) ?_|refine forall_one ?_|((refine idCond ?_); refine yS (fun hg=>?_) fun hg=>?_))
      | ((with_reducible refine idOQ ?_); first|(with_reducible refine oQ_nil ?_)|((with_reducible refine oQ_one ?_ ?_); exact ⟨_, rfl⟩))
      | ((with_reducible refine idO ?_); (with_reducible refine oM_gen fun Kv hK=>?_); simp [go_sem, c0, hix, e0, p0]; refine hK _ _ ?_; clear hK; clear Kv)))
      · have heq : l[i].1 = f := by assumption
        rw [if_pos heq] at hnx
        rw [hnx]
        exact ⟨v, rfl, f2, hov2, hfr⟩
      · have hne : ¬ l[i].1 = f := by assumption
        rw [if_neg hne] at hnx
        have g3 : Fr (fun _ => False) w2 (w2.alloc (.cells #[.int .i64 l[i].1, bsV l[i].2.1, bsV l[i].2.2] 84 (0, 0))) := (Fr.refl _ _).alloc _
        have n3 := heap_alloc_new w2 (.cells #[.int .i64 l[i].1, bsV l[i].2.1, bsV l[i].2.2] 84 (0, 0))
        generalize w2.alloc (.cells #[.int .i64 l[i].1, bsV l[i].2.1, bsV l[i].2.2] 84 (0, 0)) = w3 at *
        have hov3 : w3.ownsRow 0 84 3 v (keepF f (l.take i)).length (flat filC (keepF f (l.take i))) := owns_keep hov2 (fun i hi => g3.block i (owns_own hov2 hi).1 (fun h => h))
        have f3 := f2.trans g3 (fun _ h => h.elim)
        refine append_at 61 61 84 ((Tryz.prog.info? 84).getD default) (.agg #[.int .i64 0, .string ⟨#[]⟩, .string ⟨#[]⟩]) 3 40 (by kernel_rfl) (by kernel_rfl) (by kernel_rfl) (by kernel_rfl) (by kernel_rfl) (by kernel_rfl) (by omega) hov3 (filC l[i]) rfl (fun h => by cases h) ?_ (filC_one _) (by simp only [maxLen]; omega) (by omega) ?_
        · rintro ad hu j y hj
          cases hu
          rw [add_none, Nat.zero_add, cell_of_block n3]
          match j, hj with
          | 0, hj => exact hj
          | 1, hj => exact hj
          | 2, hj => exact hj
        intro v' w4 ho4 g4 hv4
        refine ⟨v', rfl, f3.by g4 (fun j hj => .inr (hfr j hj)), ?_, fun j hj => (hv4 j hj).elim (hfr j) (fun e => by have := f3.size; omega)⟩
        rw [hnx, List.length_append, flat_snoc]
        exact ho4
    · rintro l' u w5 ⟨v', rfl, f5, hov5, hfr5⟩
      simp only [List.getD_cons_zero]
      repeat (any_goals ((with_reducible refine idO ?_); (with_reducible refine oM_gen fun Kv hK=>?_); simp [go_sem]; (try simp (disch := omega) only [wrapI64, wrapU8, wrapU32, wrapU64]); refine hK _ _ ?_; clear hK; clear Kv))
      refine ⟨⟨v', i + 1, rfl, hlt, f5, hov5, hfr5⟩, ?_⟩
      show ((l.length : Int) - ((i : Int) + 1)).toNat < ((l.length : Int) - (i : Int)).toNat
      omega
  · rw [List.take_of_length_le (by omega)] at hov hlen
    have p0 := cell_of_block n1 0
    have p1 := cell_of_block n1 1
    have p2 := cell_of_block n1 2
    simp at p0 p1 p2
    have hld := loadFil (o := 0) p0 p1 p2
    repeat (any_goals (first
    | (rw [oM_load, hld, rM_ok])
    | ((with_reducible refine idO ?_); (with_reducible refine oM_gen fun Kv hK=>?_); simp [go_sem]; refine hK _ _ ?_; clear hK; clear Kv)))
    have g3 : Fr (fun _ => False) w1 (w1.alloc (.cells #[.int .i64 f, bsV x.1, bsV x.2] 84 (0, 0))) := (Fr.refl _ _).alloc _
    have n3 := heap_alloc_new w1 (.cells #[.int .i64 f, bsV x.1, bsV x.2] 84 (0, 0))
    generalize w1.alloc (.cells #[.int .i64 f, bsV x.1, bsV x.2] 84 (0, 0)) = w3 at *
    have hov3 : w3.ownsRow 0 84 3 v (keepF f l).length (flat filC (keepF f l)) := owns_keep hov (fun i hi => g3.block i (owns_own hov hi).1 (fun h => h))
    have f3 := f1.trans g3 (fun _ h => h.elim)
    refine append_at 61 61 84 ((Tryz.prog.info? 84).getD default) (.agg #[.int .i64 0, .string ⟨#[]⟩, .string ⟨#[]⟩]) 3 40 (by kernel_rfl) (by kernel_rfl) (by kernel_rfl) (by kernel_rfl) (by kernel_rfl) (by kernel_rfl) (by omega) hov3 (filC (f, x)) rfl (fun h => by cases h) ?_ (filC_one _) (by simp only [maxLen]; omega) (by omega) ?_
    · rintro ad hu j y hj
      cases hu
      rw [add_none, Nat.zero_add, cell_of_block n3]
      match j, hj with
      | 0, hj => exact hj
      | 1, hj => exact hj
      | 2, hj => exact hj
    intro v' w4 ho4 g4 hv4
    have f4 : Fr (fun _ => False) w0 w4 := f3.by g4 (fun j hj => .inr (hfr j hj))
    have hv4' : ∀ j, v'.ownBlock = some j → w0.heap.size ≤ j := fun j hj => (hv4 j hj).elim (hfr j) (fun e => by have := f3.size; omega)
    have d4 := d0.fresh f4
    have y0 := d4.fz 0
    have e0 := d4.c 0
    simp only [rfCells] at e0
    obtain ⟨a4, c4, rfl⟩ := owns_len ho4
    repeat (any_goals ((with_reducible refine idO ?_); (with_reducible refine oM_gen fun Kv hK=>?_); simp [go_sem, y0, e0]; refine hK _ _ ?_; clear hK; clear Kv))
    have hne : ∀ i, i ≠ b → (w4.setCell ⟨b, 0, none⟩ (.slice a4 ((keepF f l).length + 1) c4)).heap[i]? = w4.heap[i]? := fun i hi => setCell_heap_ne _ _ _ _ hi
    have hb0 := d0.lt (.inl (.inl rfl))
    refine k _ { h with fv := .slice a4 ((keepF f l).length + 1) c4 } ⟨?_, ⟨_, hF.set hf x, ?_⟩, ?_, ?_, ?_⟩ ⟨?_, ?_, ?_⟩
    · rw [block_set d4.blk]; rfl
    · show World.ownsRow _ 0 _ 3 (.slice a4 _ c4) _ _
      rw [List.length_append, flat_snoc]
      exact owns_keep ho4 (fun i hi => hne i (fun e => by have := hv4' i hi; omega))
    · exact owns_keep d4.que (fun i hi => hne i (d4.qne hi).1)
    · exact owns_keep d4.kep (fun i hi => hne i (d4.fne (.inr hi)).1)
    · refine ⟨d.wf.l0, d.wf.l1, d.wf.a0, d.wf.a1, d.wf.nd, d.wf.qr, ?_, d.wf.kr, d.wf.kl⟩
      intro g
      show (setF A.F f x g).1.length ≤ _ ∧ (setF A.F f x g).2.length ≤ _
      by_cases hg : g = f
      · subst hg; rw [setF_same]; exact hx
      · rw [setF_ne _ _ _ _ hg]; exact d.wf.sz g
    · have : Fr (OwnR b h) w w4 := (f0.trans f4 (fun _ h => h.elim)).mono (fun i _ h => h.elim)
      exact this.set ⟨b, 0, none⟩ _ (.inl (.inl rfl))
    · exact fun i hi => .inl hi
    · rintro i (hi | hi)
      · exact .inr (by have := hv4' i hi; omega)
      · exact .inl (.inr hi)
end
end Go.Proofs
namespace Go.Proofs
open Go Go.Sh Go.RowKit DkSpec
set_option linter.unusedSimpArgs false
set_option linter.unusedVariables false
set_option maxRecDepth 10000
attribute [local go_sem] oM_indexAddr
section
variable {w w' : World} {b : Nat} {A : Ab} {h : Rh} {K : Value → World → Prop}
theorem set_step (p t : Bs) (a i : Nat) (hi : i < t.length) (hp : a + t.length ≤ p.length) : (p.take a ++ t.take i ++ p.drop (a + i)).set (a + i) t[i] = p.take a ++ t.take (i + 1) ++ p.drop (a + (i + 1)) := by
  have e1 : (p.take a ++ t.take i).length = a + i := by simp; omega
  rw [List.set_append_right _ _ (by omega), e1, Nat.sub_self, List.drop_eq_getElem_cons (by omega), List.set_cons_zero]
  rw [show t.take (i + 1) = t.take i ++ [t[i]] from List.take_succ_eq_append_getElem hi]
  simp only [List.append_assoc, List.cons_append, List.nil_append, Nat.add_assoc]
set_option maxHeartbeats 1000000 in
theorem rput_ok (s t : Bs) (a : Int) (h0 : 0 ≤ a) (ha : a + t.length ≤ 16777216) (hs : s.length ≤ 16777216) (k : ∀ w', Fr (fun _ => False) w w' → K (bsV (putB s a.toNat t)) w') : callM Tryz.prog 67 #[.string ⟨s.toArray⟩, .int .i64 a, .string ⟨t.toArray⟩] K w := by
  apply rf_67_ok
  unfold rf_67
  by_cases ht : t = []
  · subst ht
    repeat (any_goals (first
    | (with_reducible ((refine idCond ?_); refine yL ?_))
    | ((with_reducible refine idO ?_); (with_reducible refine oM_gen fun Kv hK=>?_); simp [go_sem]; refine hK _ _ ?_; clear hK; clear Kv)))
    exact k _ (Fr.refl _ _)
  have hne : ¬ ((⟨t.toArray⟩ : ByteArray) = ⟨#[]⟩) := fun e => ht ((ba_nil t).1 e)
  obtain ⟨n, rfl⟩ := Int.eq_ofNat_of_zero_le h0
  repeat (any_goals (first
  | (with_reducible ((refine idCond ?_); refine yO ?_))
  | ((with_reducible refine idO ?_); (with_reducible refine oM_gen fun Kv hK=>?_); simp [go_sem]; refine hK _ _ ?_; clear hK; clear Kv)))
  refine ofStr_at (e := 5) (by kernel_rfl) (by kernel_rfl) (by kernel_rfl) s (fun v w1 hB g1 hv hz1 => ?_)
  have f1 : Fr (fun _ => False) w w1 := (Fr.refl _ _).none_by g1
  refine ⟨fun l' w' => ∃ (v : Value) (m : Nat), l' = [v] ∧ BufM w' 5 v (s ++ List.replicate m 0) ∧ m ≤ n + t.length - s.length ∧ Fr (fun _ => False) w w' ∧ (∀ i, v.ownBlock = some i → w.heap.size ≤ i), fun l' _ => match l' with | [.slice _ q _] => n + t.length - q | _ => 0, ⟨v, 0, rfl, by simpa using hB, by omega, f1, fun i hi => by rw [hv] at hi; cases hi; exact Nat.le_refl _⟩, ?_⟩
  rintro l' u w2 ⟨v2, m, rfl, hB2, hm, f2, hv2⟩
  simp only [List.getD_cons_zero]
  obtain ⟨g, c, hvs, hgl⟩ := hB2.shape
  have hlen : (s ++ List.replicate m (0 : UInt8)).length = s.length + m := by simp
  rw [hlen] at hvs
  subst hvs
  repeat (any_goals (first
  | (with_reducible ((refine idCond ?_); refine yP (fun hg=>?_) fun hg=>?_))
  | ((with_reducible refine idO ?_); (with_reducible refine oM_gen fun Kv hK=>?_); simp [go_sem]; (try simp (disch := omega) only [wrapI64, wrapU8, wrapU32, wrapU64]); refine hK _ _ ?_; clear hK; clear Kv)))
  · have g3 : Fr (fun _ => False) w2 (w2.alloc (.cells #[.int .u8 0] 5 (0, 0))) := (Fr.refl _ _).alloc _
    have n3 := heap_alloc_new w2 (.cells #[.int .u8 0] 5 (0, 0))
    generalize w2.alloc (.cells #[.int .u8 0] 5 (0, 0)) = w3 at *
    have hB3 := hB2.keep (w' := w3) (fun i hi => by cases hi; exact g3.block g hgl (fun h => h))
    have f3 := f2.trans g3 (fun _ h => h.elim)
    have e3 := cell_of_block n3 0
    refine pushB_at (i := (Tryz.prog.info? 5).getD default) (x := 0) (e := 5) (by kernel_rfl) (by kernel_rfl) (by kernel_rfl) (by kernel_rfl) (by kernel_rfl) hB3 e3 (by rw [hlen]; omega) (fun v' w4 hB4 g4 hv4 => ?_)
    have f4 : Fr (fun _ => False) w w4 := f3.by g4 (fun i hi => .inr (hv2 i hi))
    have e4 : s ++ List.replicate m (0 : UInt8) ++ [0] = s ++ List.replicate (m + 1) 0 := by rw [List.append_assoc, ← List.replicate_succ']
    rw [e4] at hB4
    obtain ⟨g', c', hvs', hgl'⟩ := hB4.shape
    have hlen' : (s ++ List.replicate (m + 1) (0 : UInt8)).length = s.length + (m + 1) := by simp
    rw [hlen'] at hvs'
    subst hvs'
    refine ⟨⟨_, m + 1, rfl, hB4, by omega, f4, fun i hi => ?_⟩, ?_⟩
    · rcases hv4 with e | ⟨j, e, hj⟩
      · rw [e] at hi; exact hv2 i hi
      · rw [e] at hi; cases hi; have := f3.size; omega
    · show n + t.length - (s.length + (m + 1)) < n + t.length - (s.length + m)
      omega
  · have hmx : m = n + t.length - s.length := by omega
    obtain ⟨p, hp⟩ : ∃ p, p = s ++ List.replicate m (0 : UInt8) := ⟨_, rfl⟩
    have hpl : p.length = s.length + m := by rw [hp, hlen]
    rw [← hp] at hB2
    refine ⟨fun l' w' => ∃ i : Nat, l' = [.int .i64 (i : Int)] ∧ i ≤ t.length ∧ BufM w' 5 (.slice (some ⟨g, 0, none⟩) (s.length + m) c) (p.take n ++ t.take i ++ p.drop (n + i)) ∧ Fr (fun _ => False) w w', fun l' _ => match l' with | [.int _ q] => ((t.length : Int) - q).toNat | _ => 0, ⟨0, rfl, by omega, by simpa using hB2, f2⟩, ?_⟩
    rintro l' u w5 ⟨i, rfl, hi, hB5, f5⟩
    simp only [List.getD_cons_zero]
    have hLl : (p.take n ++ t.take i ++ p.drop (n + i)).length = s.length + m := by simp; omega
    repeat (any_goals (first
    | (with_reducible ((refine idCond ?_); refine yP (fun hg=>?_) fun hg=>?_))
    | ((with_reducible refine idO ?_); (with_reducible refine oM_gen fun Kv hK=>?_); simp [go_sem]; (try simp (disch := omega) only [wrapI64, wrapU8, wrapU32, wrapU64]); (first|refine hK _ _ ?_|refine And.intro (by omega) (hK _ _ ?_)); clear hK; clear Kv)))
    · have hlt : i < t.length := by omega
      have hbt : byteAt ⟨t.toArray⟩ i = t[i] := by simp [byteAt, hlt]
      have hst := set_step p t n i hlt (by omega)
      rw [← hbt] at hst
      obtain ⟨g6, c6, e6, fz6, cl6, hB6⟩ := hB5.set (j := n + i) (by omega) (byteAt ⟨t.toArray⟩ i)
      obtain ⟨x6, hx6⟩ := Option.isSome_iff_exists.1 cl6
      rw [hst] at hB6
      rw [hLl] at e6
      cases e6
      have hix : (Instr.indexAt 96 (.slice (some ⟨g, 0, none⟩) (s.length + m) c) (.int .i64 ((n : Int) + (i : Int)))).run Tryz.prog w5 = .ok (.pointer (some ⟨g, n + i, none⟩)) w5 := by
        rw [run_indexAt_slice (h := by kernel_rfl), if_pos (by omega)]
        have hs : (sizeOf (Tryz.prog.elem 96)).run Tryz.prog w5 = .ok 1 w5 := by kernel_rfl
        rw [hs]
        have : ((n : Int) + (i : Int)).toNat = n + i := by omega
        simp only [Result.andThen, this, add_none, Nat.mul_one, Nat.zero_add]
      repeat (any_goals ((with_reducible refine idO ?_); (with_reducible refine oM_gen fun Kv hK=>?_); simp [go_sem, hix, fz6, hx6]; (try simp (disch := omega) only [wrapI64, wrapU8, wrapU32, wrapU64]); refine hK _ _ ?_; clear hK; clear Kv))
      refine ⟨⟨i + 1, rfl, hlt, hB6, f5.set ⟨g, n + i, none⟩ _ (.inr (hv2 g rfl))⟩, ?_⟩
      show ((t.length : Int) - ((i : Int) + 1)).toNat < ((t.length : Int) - (i : Int)).toNat
      omega
    · have hit : i = t.length := by omega
      subst hit
      rw [List.take_of_length_le (Nat.le_refl _)] at hB5
      refine toStrM_at (e := 5) (by kernel_rfl) (by kernel_rfl) (by kernel_rfl) hB5 ?_
      have e7 : p.take n ++ t ++ p.drop (n + t.length) = putB s n t := by
        unfold putB
        rw [if_neg ht, hp, hmx]
      rw [e7]
      have := k w5 f5
      rw [Int.toNat_natCast] at this
      exact this
theorem pending_ok (d : IsRf w b A h) (f n : Int) (k : K (.bool (decide ((f, n) ∈ A.queue))) w) : callM Tryz.prog 83 #[dkP b, .int .i64 f, .int .i64 n] K w := by
  apply rf_83_ok
  unfold rf_83
  have c1 := d.c 1
  simp only [rfCells] at c1
  have ho := d.que
  obtain ⟨va, vc, hv⟩ := owns_len ho
  rw [hv] at ho c1
  have hql := d.wf.ql
  refine ⟨fun l' w' => w' = w ∧ ∃ (u : Value) (i : Nat), l' = [u, .int .i64 (i : Int)] ∧ i ≤ A.queue.length ∧ (f, n) ∉ A.queue.take i, fun l' _ => match l' with | [_, .int _ m] => ((A.queue.length : Int) - m).toNat | _ => 0, ⟨rfl, _, 0, rfl, by omega, by simp⟩, ?_⟩
  rintro l' u w1 ⟨rfl, u1, i, rfl, hi, hpre⟩
  simp only [List.getD_cons_zero, List.getD_cons_succ]
  repeat (any_goals (first
  | (with_reducible ((refine idCond ?_); refine yP (fun hg=>?_) fun hg=>?_))
  | ((with_reducible refine idO ?_); (with_reducible refine oM_gen fun Kv hK=>?_); simp [go_sem, c1]; refine hK _ _ ?_; clear hK; clear Kv)))
  · have hlt : i < A.queue.length := by omega
    obtain ⟨g, c, he, e0, e1⟩ := secR_cells ho (List.getElem?_eq_getElem hlt)
    cases he
    have hix := idxSecR (g := g) (c := vc) hlt w1
    have step : ¬ (A.queue[i].1 = f ∧ A.queue[i].2 = n) → (f, n) ∉ A.queue.take (i + 1) := by
      intro hn hm
      rw [List.take_succ_eq_append_getElem hlt] at hm
      rcases List.mem_append.1 hm with hm | hm
      · exact hpre hm
      · simp only [List.mem_singleton] at hm
        exact hn ⟨by rw [← hm], by rw [← hm]⟩
    have meas : ((A.queue.length : Int) - ((i : Int) + 1)).toNat < ((A.queue.length : Int) - (i : Int)).toNat := by omega
    repeat (any_goals (first
    | (with_reducible first|refine pureM_in ?_|((refine idGd ?_); ((refine idGdD ?_); first|refine zF ?_|refine zG ?_|refine zH (fun hg=>?_) fun hg=>?_))|((refine idPick ?_); first|refine yD ?_|refine yE ?_)|((refine idCond ?_); first|refine yM ?_|refine yP (fun hg=>?_) fun hg=>?_))
    | ((with_reducible refine idO ?_); (with_reducible refine oM_gen fun Kv hK=>?_); simp [go_sem, c1, hix, e0, e1]; (try simp (disch := omega) only [wrapI64, wrapU8, wrapU32, wrapU64]); refine hK _ _ ?_; clear hK; clear Kv)))
    · have h1 : A.queue[i].1 = f := by assumption
      have h2 : A.queue[i].2 = n := by assumption
      have hm : (f, n) ∈ A.queue := by
        have := List.getElem_mem hlt
        have e : A.queue[i] = (f, n) := Prod.ext h1 h2
        rw [← e]; exact this
      rw [decide_eq_true hm] at k
      exact k
    · have h2 : ¬ A.queue[i].2 = n := by assumption
      exact ⟨⟨rfl, _, i + 1, rfl, hlt, step (fun e => h2 e.2)⟩, meas⟩
    · have h1 : ¬ A.queue[i].1 = f := by assumption
      exact ⟨⟨rfl, _, i + 1, rfl, hlt, step (fun e => h1 e.1)⟩, meas⟩
  · rw [List.take_of_length_le (by omega)] at hpre
    rw [decide_eq_false hpre] at k
    exact k
end
end Go.Proofs
namespace Go.Proofs
open Go Go.Sh Go.RowKit DkSpec
set_option linter.unusedSimpArgs false
set_option linter.unusedVariables false
set_option maxRecDepth 10000
attribute [local go_sem] oM_indexAddr
section
variable {w w' : World} {b : Nat} {A : Ab} {h : Rh} {K : Value → World → Prop}
theorem IsRf.setQ (d : IsRf w b A h) {q : List (Int × Int)} {v : Value} (ho : w.ownsRow 0 82 2 v q.length (flat secC q)) (hb : v.ownBlock ≠ some b) (hw : WF { A with queue := q }) : IsRf (w.setCell ⟨b, 1, none⟩ v) b { A with queue := q } { h with qv := v } := by
  have hne : ∀ i, i ≠ b → (w.setCell ⟨b, 1, none⟩ v).heap[i]? = w.heap[i]? := fun i hi => setCell_heap_ne _ _ _ _ hi
  obtain ⟨l, h1, h2⟩ := d.files
  refine ⟨by rw [block_set d.blk]; rfl, ⟨l, h1, owns_keep h2 (fun i hi => hne i (d.fne (.inl hi)).1)⟩, owns_keep ho (fun i hi => hne i (fun e => hb (e ▸ hi))), owns_keep d.kep (fun i hi => hne i (d.fne (.inr hi)).1), hw⟩
def addCut (a0 a1 a2 a3 : Value) (K : Value → World → Prop) (w : World) : Prop :=
 oM Tryz.prog (Go.Op.binOp Go.BinOp.quo 3 (.tmp 0) (.tmp 1) 3) 3 [a2, (.int .i64 64)] (fun v25_10 w =>
 loopM [v25_10] w (fun J_11 m_12 l_13 u_l_13 w0_l_13 => (fun w => (
 oM Tryz.prog (Go.Op.call (Go.Call.mk (Go.Callee.builtin Go.Builtin.len) #[(.tmp 0)] #[9])) 3 [a3] (fun v29_14 w =>
 oM Tryz.prog (Go.Op.binOp Go.BinOp.add 3 (.tmp 0) (.tmp 1) 3) 3 [a2, v29_14] (fun v30_15 w =>
 oM Tryz.prog (Go.Op.binOp Go.BinOp.sub 3 (.tmp 0) (.tmp 1) 3) 3 [v30_15, (.int .i64 1)] (fun v31_16 w =>
 oM Tryz.prog (Go.Op.binOp Go.BinOp.quo 3 (.tmp 0) (.tmp 1) 3) 3 [v31_16, (.int .i64 64)] (fun v32_17 w =>
 oM Tryz.prog (Go.Op.binOp Go.BinOp.leq 3 (.tmp 0) (.tmp 1) 3) 4 [(l_13.getD 0 undef), v32_17] (fun v33_18 w =>
 condM v33_18
 (joinM (fun M_19 => (callM Tryz.prog 83 #[a0, a1, (l_13.getD 0 undef)] (fun v39_21 w =>
 oM Tryz.prog (Go.Op.unOp Go.UnOp.not 4 (.tmp 0)) 4 [v39_21] (fun v40_22 w =>
 condM v40_22
 (oM Tryz.prog (Go.Op.nilCheck (.tmp 0)) 0 [a0] (fun v43_23 w =>
 oM Tryz.prog (Go.Op.fieldAddr 64 (.tmp 0) 1) 0 [v43_23] (fun v44_24 w =>
 oM Tryz.prog (Go.Op.load 62 (.tmp 0)) 62 [v44_24] (fun v45_25 w =>
 oM Tryz.prog (Go.Op.build 82 #[(0, (.tmp 0)), (1, (.tmp 1))]) 82 [a1, (l_13.getD 0 undef)] (fun v48_26 w =>
 oM Tryz.prog (Go.Op.buildSlice 62 1 #[(0, (.tmp 0))]) 62 [v48_26] (fun v49_27 w =>
 oM Tryz.prog (Go.Op.call (Go.Call.mk (Go.Callee.builtin Go.Builtin.append) #[(.tmp 0), (.tmp 1)] #[62, 62])) 62 [v45_25, v49_27] (fun v50_28 w =>
 oM Tryz.prog (Go.Op.nilCheck (.tmp 0)) 0 [a0] (fun v51_29 w =>
 oM Tryz.prog (Go.Op.fieldAddr 64 (.tmp 0) 1) 0 [v51_29] (fun v52_30 w =>
 oM Tryz.prog (Go.Op.store 62 (.tmp 0) (.tmp 1)) 0 [v52_30, v50_28] (fun _ w =>
 M_19 [] w) w) w) w) w) w) w) w) w) w)
 (M_19 [] w)) w) w))
 (fun l_20 u_l_20 w => (oM Tryz.prog (Go.Op.binOp Go.BinOp.add 3 (.tmp 0) (.tmp 1) 3) 3 [(l_13.getD 0 undef), (.int .i64 1)] (fun v35_31 w =>
 J_11 [v35_31] w ∧ m_12 [v35_31] w < m_12 l_13 w0_l_13) w)))
 (K (.tuple #[]) w)) w) w) w) w) w)) w0_l_13)) w
set_option maxHeartbeats 1000000 in
theorem addCut_ok (d : IsRf w b A h) (f : Int) (hf : 0 ≤ f ∧ f < 16) (a : Nat) (s : Bs) (hs : s ≠ []) (hfit : a + s.length ≤ 16777216) (k : ∀ w' h', IsRf w' b { A with queue := pushQ f A.queue (secs a s.length) } h' → StepR w b h w' h' → K (.tuple #[]) w') : addCut (dkP b) (.int .i64 f) (.int .i64 (a : Int)) (bsV s) K w := by
  unfold addCut
  have hlen : 0 < s.length := List.length_pos_iff.2 hs
  obtain ⟨m, hm'⟩ : ∃ m, m = (a + s.length - 1) / 64 := ⟨_, rfl⟩
  have hd1 : ((a : Int) + (s.length : Int) - 1).tdiv 64 = (m : Int) := by
    rw [tdivN _ _ (by omega)]; omega
  have hd2 : ((a : Int) + (s.length : Int) - 1) / 64 = (m : Int) := by omega
  have hmb : m < 262144 := by omega
  repeat (any_goals ((with_reducible refine idO ?_); (with_reducible refine oM_gen fun Kv hK=>?_); simp [go_sem]; (try simp (disch := omega) only [wrapI64, wrapU8, wrapU32, wrapU64]); refine hK _ _ ?_; clear hK; clear Kv))
  refine ⟨fun l w' => ∃ (n : Nat) (q : List (Int × Int)) (h1 : Rh), l = [.int .i64 (n : Int)] ∧ n ≤ m + 1 ∧ IsRf w' b { A with queue := q } h1 ∧ StepR w b h w' h1 ∧ pushQ f q (secsFrom n m) = pushQ f A.queue (secs a s.length), fun l _ => match l with | [.int _ n] => ((m : Int) + 1 - n).toNat | _ => 0, ⟨a / 64, A.queue, h, by simp, by omega, d, StepR.refl _ _ _, by rw [hm']; rfl⟩, ?_⟩
  rintro l u w5 ⟨n, q, h5, rfl, hnm, d5, t5, hp⟩
  simp only [List.getD_cons_zero]
  repeat (any_goals (first
  | (with_reducible ((refine idCond ?_); refine yP (fun hg=>?_) fun hg=>?_))
  | ((with_reducible refine idO ?_); (with_reducible refine oM_gen fun Kv hK=>?_); simp [go_sem, hd1, hd2]; (try simp (disch := omega) only [wrapI64, wrapU8, wrapU32, wrapU64]); refine hK _ _ ?_; clear hK; clear Kv)))
  · rw [secsFrom_le hg] at hp
    have hp : pushQ f (if (f, (n : Int)) ∈ q then q else q ++ [(f, (n : Int))]) (secsFrom (n + 1) m) = _ := hp
    refine ⟨fun _ w' => ∃ (q' : List (Int × Int)) (h' : Rh), IsRf w' b { A with queue := q' } h' ∧ StepR w b h w' h' ∧ pushQ f q' (secsFrom (n + 1) m) = pushQ f A.queue (secs a s.length), ?_, ?_⟩
    · refine pending_ok d5 f n ?_
      by_cases hin : (f, (n : Int)) ∈ q
      · have hin' : (f, (n : Int)) ∈ ({ A with queue := q } : Ab).queue := hin
        rw [decide_eq_true hin']
        rw [if_pos hin] at hp
        repeat (any_goals (first
        | (with_reducible ((refine idCond ?_); refine yM ?_))
        | ((with_reducible refine idO ?_); (with_reducible refine oM_gen fun Kv hK=>?_); simp [go_sem]; refine hK _ _ ?_; clear hK; clear Kv)))
        exact ⟨q, h5, d5, t5, hp⟩
      · have hin' : ¬ (f, (n : Int)) ∈ ({ A with queue := q } : Ab).queue := hin
        rw [decide_eq_false hin']
        rw [if_neg hin] at hp
        have c1 := d5.c 1
        simp only [rfCells] at c1
        repeat (any_goals (first
        | (with_reducible ((refine idCond ?_); refine yL ?_))
        | ((with_reducible refine idO ?_); (with_reducible refine oM_gen fun Kv hK=>?_); simp [go_sem, c1]; refine hK _ _ ?_; clear hK; clear Kv)))
        have g6 : Fr (fun _ => False) w5 (w5.alloc (.cells #[.int .i64 f, .int .i64 (n : Int)] 82 (0, 0))) := (Fr.refl _ _).alloc _
        have n6 := heap_alloc_new w5 (.cells #[.int .i64 f, .int .i64 (n : Int)] 82 (0, 0))
        generalize w5.alloc (.cells #[.int .i64 f, .int .i64 (n : Int)] 82 (0, 0)) = w6 at *
        have d6 := d5.fresh g6
        have hql : q.length ≤ 4194304 := d6.wf.ql
        refine append_at 62 62 82 ((Tryz.prog.info? 82).getD default) (.agg #[.int .i64 0, .int .i64 0]) 2 16 (by kernel_rfl) (by kernel_rfl) (by kernel_rfl) (by kernel_rfl) (by kernel_rfl) (by kernel_rfl) (by omega) d6.que (secC (f, (n : Int))) rfl ?_ ?_ (secC_one _) (by simp only [maxLen]; show q.length + 1 ≤ _; omega) (by show (q.length + 1) * 16 ≤ _; omega) ?_
        · intro h; cases h
        · rintro ad hu j x hj
          cases hu
          rw [add_none, Nat.zero_add, cell_of_block n6]
          match j, hj with
          | 0, hj => exact hj
          | 1, hj => exact hj
        intro v' w7 ho7 g7 hv7
        have hb5 : b < w5.heap.size := d5.lt (.inl (.inl rfl))
        have hz6 := g6.size
        have d7 : w7.heap[b]? = some (.cells (rfCells { A with queue := q } h5) 64 (0, 0)) := (g7.block b (by omega) (fun e => (d6.qne e.symm).1 rfl)).trans d6.blk
        have e1 := cell_of_block d7 1
        have y1 := frozen_of_block d7 1
        simp [rfCells] at e1
        obtain ⟨va, vc, rfl⟩ := owns_len ho7
        repeat (any_goals ((with_reducible refine idO ?_); (with_reducible refine oM_gen fun Kv hK=>?_); simp [go_sem, e1, y1]; refine hK _ _ ?_; clear hK; clear Kv))
        have hvb : (Value.slice va (q.length + 1) vc).ownBlock ≠ some b := fun e => (hv7 b e).elim (fun e => (d6.qne e).1 rfl) (fun e => by omega)
        have hne : ∀ i, i ≠ b → (w7.setCell ⟨b, 1, none⟩ (.slice va (q.length + 1) vc)).heap[i]? = w7.heap[i]? := fun i hi => setCell_heap_ne _ _ _ _ hi
        obtain ⟨l6, hF6, ho6⟩ := d6.files
        have k7 : ∀ i, i < w6.heap.size → h5.qv.ownBlock ≠ some i → w7.heap[i]? = w6.heap[i]? := fun i hi hn => g7.block i hi (fun e => hn e.symm)
        have hwf : WF { A with queue := q ++ [(f, (n : Int))] } := push_wf (A := { A with queue := q }) d6.wf hf (by omega) hin
        refine ⟨q ++ [(f, (n : Int))], { h5 with qv := .slice va (q.length + 1) vc }, ⟨?_, ⟨l6, hF6, ?_⟩, ?_, ?_, hwf⟩, t5.trans ⟨?_, ?_, fun i hi => .inl hi⟩, hp⟩
        · rw [block_set d7]; rfl
        · refine owns_keep ho6 (fun i hi => ?_)
          have := d6.fne (.inl hi)
          rw [hne i this.1, k7 i (owns_own ho6 hi).1 this.2]
        · show World.ownsRow _ 0 _ 2 _ (q ++ [(f, (n : Int))]).length (flat secC (q ++ [(f, (n : Int))]))
          rw [flat_snoc, List.length_append]
          exact owns_keep ho7 (fun i hi => hne i (fun e => hvb (e ▸ hi)))
        · refine owns_keep d6.kep (fun i hi => ?_)
          have := d6.fne (.inr hi)
          rw [hne i this.1, k7 i (owns_own d6.kep hi).1 this.2]
        · have f7 : Fr (OwnR b h5) w5 w7 := (g6.mono (fun i _ h => h.elim)).by g7 (fun i hi => .inl (.inr hi))
          exact f7.set ⟨b, 1, none⟩ _ (.inl (.inl rfl))
        · rintro i (rfl | hi)
          · exact .inl (.inl rfl)
          · exact (hv7 i hi).imp .inr (fun e => by omega)
    · rintro l u w6 ⟨q', h6, d6, t6, hp6⟩
      repeat (any_goals ((with_reducible refine idO ?_); (with_reducible refine oM_gen fun Kv hK=>?_); simp [go_sem]; (try simp (disch := omega) only [wrapI64, wrapU8, wrapU32, wrapU64]); refine hK _ _ ?_; clear hK; clear Kv))
      refine ⟨⟨n + 1, q', h6, by simp, by omega, d6, t6, hp6⟩, ?_⟩
      show ((m : Int) + 1 - ((n : Int) + 1)).toNat < _
      omega
  · rw [secsFrom_gt (by omega)] at hp
    have hp : q = _ := hp
    rw [hp] at d5
    exact k w5 h5 d5 t5
set_option maxHeartbeats 1000000 in
theorem add_ok (d : IsRf w b A h) (f : Int) (hf : 0 ≤ f ∧ f < 16) (a : Int) (h0 : 0 ≤ a) (s : Bs) (hfit : a + s.length ≤ 16777216) (k : ∀ w' h', IsRf w' b (addA A f a.toNat s) h' → StepR w b h w' h' → K (.tuple #[]) w') : callM Tryz.prog 66 #[dkP b, .int .i64 f, .int .i64 a, bsV s] K w := by
  apply rf_66_ok
  unfold rf_66
  obtain ⟨n, rfl⟩ := Int.eq_ofNat_of_zero_le h0
  rw [Int.toNat_natCast] at k
  by_cases hs : s = []
  · subst hs
    repeat (any_goals (first
    | (with_reducible ((refine idCond ?_); refine yL ?_))
    | ((with_reducible refine idO ?_); (with_reducible refine oM_gen fun Kv hK=>?_); simp [go_sem]; refine hK _ _ ?_; clear hK; clear Kv)))
    exact k w h d (StepR.refl _ _ _)
  have hne : ¬ ((⟨s.toArray⟩ : ByteArray) = ⟨#[]⟩) := fun e => hs ((ba_nil s).1 e)
  have e : addA A f n s = { ({ A with F := setF A.F f (putB (A.F f).1 n s, (A.F f).2) } : Ab) with queue := pushQ f A.queue (secs n s.length) } := by
    unfold addA; rw [if_neg hs]
  rw [e] at k
  have hsz := d.wf.sz f
  repeat (any_goals (first
  | (with_reducible ((refine idCond ?_); refine yO ?_))
  | ((with_reducible refine idO ?_); (with_reducible refine oM_gen fun Kv hK=>?_); simp [go_sem]; refine hK _ _ ?_; clear hK; clear Kv)))
  refine fget_ok d f (fun w1 f1 => ?_)
  unfold filV
  repeat (any_goals ((with_reducible refine idO ?_); (with_reducible refine oM_gen fun Kv hK=>?_); simp [go_sem]; refine hK _ _ ?_; clear hK; clear Kv))
  have g2 : Fr (fun _ => False) w1 (w1.alloc (.cells #[.int .i64 f, .string ⟨(A.F f).1.toArray⟩, .string ⟨(A.F f).2.toArray⟩] 84 (0, 0))) := (Fr.refl _ _).alloc _
  have n3 := heap_alloc_new w1 (.cells #[.int .i64 f, .string ⟨(A.F f).1.toArray⟩, .string ⟨(A.F f).2.toArray⟩] 84 (0, 0))
  have hz3 := alloc_size w1 (.cells #[.int .i64 f, .string ⟨(A.F f).1.toArray⟩, .string ⟨(A.F f).2.toArray⟩] 84 (0, 0))
  generalize w1.alloc (.cells #[.int .i64 f, .string ⟨(A.F f).1.toArray⟩, .string ⟨(A.F f).2.toArray⟩] 84 (0, 0)) = w3 at *
  have f3 : Fr (fun _ => False) w w3 := f1.trans g2 (fun _ h => h.elim)
  refine rput_ok (A.F f).1 s (n : Int) (by omega) (by omega) hsz.1 ?_
  intro w4 f4
  rw [Int.toNat_natCast]
  have n4 := (f4.block w1.heap.size (by omega) (fun h => h)).trans n3
  have y1 := frozen_of_block n4 1
  have q1 := cell_of_block n4 1
  simp at q1
  have n5 := block_set (i := 1) n4 (bsV (putB (A.F f).1 n s))
  have f5 := (f3.trans f4 (fun _ h => h.elim)).set ⟨w1.heap.size, 1, none⟩ (bsV (putB (A.F f).1 n s)) (.inr f1.size)
  repeat (any_goals ((with_reducible refine idO ?_); (with_reducible refine oM_gen fun Kv hK=>?_); simp [go_sem, y1, q1]; refine hK _ _ ?_; clear hK; clear Kv))
  generalize w4.setCell ⟨w1.heap.size, 1, none⟩ (bsV (putB (A.F f).1 n s)) = w5 at *
  have p0 := cell_of_block n5 0
  have p1 := cell_of_block n5 1
  have p2 := cell_of_block n5 2
  simp at p0 p1 p2
  have hld := loadFil (o := 0) p0 p1 p2
  have d5 := d.fresh f5
  have hpl := putB_length (A.F f).1 n s
  rw [if_neg hs] at hpl
  repeat (any_goals (rw [oM_load, hld, rM_ok]))
  refine set_ok d5 f hf (putB (A.F f).1 n s, (A.F f).2) ⟨by show (putB _ _ _).length ≤ _; omega, hsz.2⟩ (fun w6 h6 d6 t6 => ?_)
  exact addCut_ok d6 f hf n s hs (by omega) (fun w7 h7 d7 t7 => k w7 h7 d7 ((StepR.fresh f5).trans (t6.trans t7)))
end
end Go.Proofs
namespace Go.Proofs
open Go Go.Sh Go.RowKit DkSpec
set_option linter.unusedSimpArgs false
set_option linter.unusedVariables false
set_option maxRecDepth 10000
attribute [local go_sem] oM_indexAddr
def rcrEnd (a0 : Value) (K : Value → World → Prop) (w : World) : Prop :=
 (loopM [(.slice none 0 0), (.int .i64 0)] w (fun J_35 m_36 l_37 u_l_37 w0_l_37 => (fun w => (
 oM Tryz.prog (Go.Op.nilCheck (.tmp 0)) 0 [a0] (fun v51_38 w =>
 oM Tryz.prog (Go.Op.fieldAddr 64 (.tmp 0) 0) 0 [v51_38] (fun v52_39 w =>
 oM Tryz.prog (Go.Op.load 61 (.tmp 0)) 61 [v52_39] (fun v53_40 w =>
 oM Tryz.prog (Go.Op.call (Go.Call.mk (Go.Callee.builtin Go.Builtin.len) #[(.tmp 0)] #[61])) 3 [v53_40] (fun v54_41 w =>
 oM Tryz.prog (Go.Op.binOp Go.BinOp.lss 3 (.tmp 0) (.tmp 1) 3) 4 [(l_37.getD 1 undef), v54_41] (fun v55_42 w =>
 condM v55_42
 (stageM w (fun C_43 w => (pureH (l_37.getD 0 undef) (upto C_43 2) (fun v58_44 =>
 pureH a0 (upto C_43 0) (fun v59_45 =>
 oH Tryz.prog (Go.Op.nilCheck (.tmp 0)) 0 [v59_45] (upto C_43 0) (fun v60_46 =>
 oH Tryz.prog (Go.Op.fieldAddr 64 (.tmp 0) 0) 0 [v60_46] (upto C_43 0) (fun v61_47 =>
 oH Tryz.prog (Go.Op.load 61 (.tmp 0)) 61 [v61_47] (upto C_43 0) (fun v62_48 =>
 pureH (l_37.getD 1 undef) (upto C_43 0) (fun v63_49 =>
 oH Tryz.prog (Go.Op.indexAddr 61 (.tmp 0) (.tmp 1)) 0 [v62_48, v63_49] (upto C_43 0) (fun v64_50 =>
 oH Tryz.prog (Go.Op.fieldAddr 84 (.tmp 0) 0) 0 [v64_50] (upto C_43 0) (fun v65_51 =>
 oH Tryz.prog (Go.Op.load 3 (.tmp 0)) 3 [v65_51] (upto C_43 0) (fun v66_52 =>
 pureH a0 (upto C_43 0) (fun v67_53 =>
 oH Tryz.prog (Go.Op.nilCheck (.tmp 0)) 0 [v67_53] (upto C_43 0) (fun v68_54 =>
 oH Tryz.prog (Go.Op.fieldAddr 64 (.tmp 0) 0) 0 [v68_54] (upto C_43 0) (fun v69_55 =>
 oH Tryz.prog (Go.Op.load 61 (.tmp 0)) 61 [v69_55] (upto C_43 0) (fun v70_56 =>
 pureH (l_37.getD 1 undef) (upto C_43 0) (fun v71_57 =>
 oH Tryz.prog (Go.Op.indexAddr 61 (.tmp 0) (.tmp 1)) 0 [v70_56, v71_57] (upto C_43 0) (fun v72_58 =>
 oH Tryz.prog (Go.Op.fieldAddr 84 (.tmp 0) 2) 0 [v72_58] (upto C_43 0) (fun v73_59 =>
 oH Tryz.prog (Go.Op.load 9 (.tmp 0)) 9 [v73_59] (upto C_43 0) (fun v74_60 =>
 pureH a0 (upto C_43 0) (fun v75_61 =>
 oH Tryz.prog (Go.Op.nilCheck (.tmp 0)) 0 [v75_61] (upto C_43 0) (fun v76_62 =>
 oH Tryz.prog (Go.Op.fieldAddr 64 (.tmp 0) 0) 0 [v76_62] (upto C_43 0) (fun v77_63 =>
 oH Tryz.prog (Go.Op.load 61 (.tmp 0)) 61 [v77_63] (upto C_43 0) (fun v78_64 =>
 pureH (l_37.getD 1 undef) (upto C_43 0) (fun v79_65 =>
 oH Tryz.prog (Go.Op.indexAddr 61 (.tmp 0) (.tmp 1)) 0 [v78_64, v79_65] (upto C_43 0) (fun v80_66 =>
 oH Tryz.prog (Go.Op.fieldAddr 84 (.tmp 0) 2) 0 [v80_66] (upto C_43 0) (fun v81_67 =>
 oH Tryz.prog (Go.Op.load 9 (.tmp 0)) 9 [v81_67] (upto C_43 0) (fun v82_68 =>
 oM Tryz.prog (Go.Op.build 84 #[(0, (.tmp 0)), (1, (.tmp 1)), (2, (.tmp 2))]) 84 [v66_52, v74_60, v82_68] (fun v83_69 w => C_43 1 w ∧ (
 oM Tryz.prog (Go.Op.buildSlice 61 1 #[(0, (.tmp 0))]) 61 [v83_69] (fun v84_70 w => C_43 2 w ∧ (
 oM Tryz.prog (Go.Op.call (Go.Call.mk (Go.Callee.builtin Go.Builtin.append) #[(.tmp 0), (.tmp 1)] #[61, 61])) 61 [v58_44, v84_70] (fun v85_71 w => C_43 3 w ∧ (
 C_43 4 w ∧ (oM Tryz.prog (Go.Op.binOp Go.BinOp.add 3 (.tmp 0) (.tmp 1) 3) 3 [(l_37.getD 1 undef), (.int .i64 1)] (fun v57_73 w =>
 J_35 [v85_71, v57_73] w ∧ m_36 [v85_71, v57_73] w < m_36 l_37 w0_l_37) w))) w)) w)) w))))))))))))))))))))))))))))
 (oM Tryz.prog (Go.Op.nilCheck (.tmp 0)) 0 [a0] (fun v88_74 w =>
 oM Tryz.prog (Go.Op.fieldAddr 64 (.tmp 0) 0) 0 [v88_74] (fun v89_75 w =>
 oM Tryz.prog (Go.Op.store 61 (.tmp 0) (.tmp 1)) 0 [v89_75, (l_37.getD 0 undef)] (fun _ w =>
 oM Tryz.prog (Go.Op.nilCheck (.tmp 0)) 0 [a0] (fun v91_76 w =>
 oM Tryz.prog (Go.Op.fieldAddr 64 (.tmp 0) 1) 0 [v91_76] (fun v92_77 w =>
 oM Tryz.prog (Go.Op.store 62 (.tmp 0) (.tmp 1)) 0 [v92_77, (.slice none 0 0)] (fun _ w =>
 K (.tuple #[]) w) w) w) w) w) w) w)) w) w) w) w) w)) w0_l_37))
section
variable {w w' : World} {b : Nat} {A : Ab} {h : Rh} {K : Value → World → Prop}
theorem loadSecR {g o : Nat} {v0 v1 : Value} (c0 : w.cell? ⟨g, o, none⟩ = some v0) (c1 : w.cell? ⟨g, o + 1, none⟩ = some v1) : (Instr.loadAt 82 (.pointer (some ⟨g, o, none⟩))).run Tryz.prog w = .ok (.agg #[v0, v1]) w := by
  refine run_loadAt_mid w g o 82 [v0, v1] _ ?_ Tryz.underlying82 rfl (by kernel_rfl)
  intro j v hj
  match j, hj with
  | 0, hj => rw [← hj]; exact c0
  | 1, hj => rw [← hj]; exact c1
set_option maxHeartbeats 1000000 in
theorem rsettle_ok (d : IsRf w b A h) (f : Int) (hf : 0 ≤ f ∧ f < 16) (s : Bs) (hs : s.length ≤ 16777216) (k : ∀ w' h', IsRf w' b (settleA A f s) h' → StepR w b h w' h' → K (.tuple #[]) w') : callM Tryz.prog 56 #[dkP b, .int .i64 f, bsV s] K w := by
  apply rf_56_ok
  unfold rf_56
  repeat (any_goals ((with_reducible refine idO ?_); (with_reducible refine oM_gen fun Kv hK=>?_); simp [go_sem]; refine hK _ _ ?_; clear hK; clear Kv))
  refine set_ok d f hf (s, s) ⟨hs, hs⟩ (fun w1 h1 d1 t1 => ?_)
  obtain ⟨va, vc, hv⟩ := owns_len d1.que
  have hql := d1.wf.ql
  have hql : A.queue.length ≤ 4194304 := hql
  refine ⟨fun l' w' => ∃ (v : Value) (i : Nat), l' = [v, .int .i64 (i : Int)] ∧ i ≤ A.queue.length ∧ Fr (fun _ => False) w1 w' ∧ w'.ownsRow 0 82 2 v (keepQ f (A.queue.take i)).length (flat secC (keepQ f (A.queue.take i))) ∧ (∀ j, v.ownBlock = some j → w1.heap.size ≤ j), fun l' _ => match l' with | [_, .int _ m] => ((A.queue.length : Int) - m).toNat | _ => 0, ⟨_, 0, rfl, by omega, Fr.refl _ _, World.ownsRow_nil _ _ _ _, fun j hj => by cases hj⟩, ?_⟩
  rintro l' u w2 ⟨v, i, rfl, hi, f2, hov, hfr⟩
  simp only [List.getD_cons_zero, List.getD_cons_succ]
  have d2 := d1.fresh f2
  have c1 := d2.c 1
  have hv' : h1.qv = .slice va A.queue.length vc := hv
  simp only [rfCells, hv'] at c1
  have ho2 : w2.ownsRow 0 82 2 (.slice va A.queue.length vc) A.queue.length (flat secC A.queue) := by
    have := d2.que
    rw [hv'] at this
    exact this
  have hlen : (keepQ f (A.queue.take i)).length ≤ i := by
    have := List.length_filter_le (fun y : Int × Int => decide (y.1 ≠ f)) (A.queue.take i)
    unfold keepQ
    rw [List.length_take] at this
    omega
  repeat (any_goals (first
  | (with_reducible ((refine idCond ?_); refine yP (fun hg=>?_) fun hg=>?_))
  | ((with_reducible refine idO ?_); (with_reducible refine oM_gen fun Kv hK=>?_); simp [go_sem, c1]; refine hK _ _ ?_; clear hK; clear Kv)))
  · have hlt : i < A.queue.length := by omega
    obtain ⟨g, c, he, e0, e1⟩ := secR_cells ho2 (List.getElem?_eq_getElem hlt)
    cases he
    have hix := idxSecR (g := g) (c := vc) hlt w2
    have hld := loadSecR e0 e1
    have hnx := keepQ_take f A.queue i hlt
    refine ⟨fun l' w' => ∃ v : Value, l' = [v] ∧ Fr (fun _ => False) w1 w' ∧ w'.ownsRow 0 82 2 v (keepQ f (A.queue.take (i + 1))).length (flat secC (keepQ f (A.queue.take (i + 1)))) ∧ (∀ j, v.ownBlock = some j → w1.heap.size ≤ j), ?_, ?_⟩
    · repeat (any_goals (first
      | (rw [oM_load, hld, rM_ok])
      | (with_reducible ((refine idCond ?_); refine yS (fun hg=>?_) fun hg=>?_))
      | ((with_reducible refine idO ?_); (with_reducible refine oM_gen fun Kv hK=>?_); simp [go_sem, c1, hix, e0]; refine hK _ _ ?_; clear hK; clear Kv)))
      · have heq : A.queue[i].1 = f := by assumption
        rw [if_pos heq] at hnx
        rw [hnx]
        exact ⟨v, rfl, f2, hov, hfr⟩
      · have hne : ¬ A.queue[i].1 = f := by assumption
        rw [if_neg hne] at hnx
        have g3 : Fr (fun _ => False) w2 (w2.alloc (.cells #[.int .i64 A.queue[i].1, .int .i64 A.queue[i].2] 82 (0, 0))) := (Fr.refl _ _).alloc _
        have n3 := heap_alloc_new w2 (.cells #[.int .i64 A.queue[i].1, .int .i64 A.queue[i].2] 82 (0, 0))
        generalize w2.alloc (.cells #[.int .i64 A.queue[i].1, .int .i64 A.queue[i].2] 82 (0, 0)) = w3 at *
        have hov3 : w3.ownsRow 0 82 2 v (keepQ f (A.queue.take i)).length (flat secC (keepQ f (A.queue.take i))) := owns_keep hov (fun i hi => g3.block i (owns_own hov hi).1 (fun h => h))
        have f3 := f2.trans g3 (fun _ h => h.elim)
        refine append_at 62 62 82 ((Tryz.prog.info? 82).getD default) (.agg #[.int .i64 0, .int .i64 0]) 2 16 (by kernel_rfl) (by kernel_rfl) (by kernel_rfl) (by kernel_rfl) (by kernel_rfl) (by kernel_rfl) (by omega) hov3 (secC A.queue[i]) rfl (fun h => by cases h) ?_ (secC_one _) (by simp only [maxLen]; omega) (by omega) ?_
        · rintro ad hu j y hj
          cases hu
          rw [add_none, Nat.zero_add, cell_of_block n3]
          match j, hj with
          | 0, hj => exact hj
          | 1, hj => exact hj
        intro v' w4 ho4 g4 hv4
        refine ⟨v', rfl, f3.by g4 (fun j hj => .inr (hfr j hj)), ?_, fun j hj => (hv4 j hj).elim (hfr j) (fun e => by have := f3.size; omega)⟩
        rw [hnx, List.length_append, flat_snoc]
        exact ho4
    · rintro l' u w5 ⟨v', rfl, f5, hov5, hfr5⟩
      simp only [List.getD_cons_zero]
      repeat (any_goals ((with_reducible refine idO ?_); (with_reducible refine oM_gen fun Kv hK=>?_); simp [go_sem]; (try simp (disch := omega) only [wrapI64, wrapU8, wrapU32, wrapU64]); refine hK _ _ ?_; clear hK; clear Kv))
      refine ⟨⟨v', i + 1, rfl, hlt, f5, hov5, hfr5⟩, ?_⟩
      show ((A.queue.length : Int) - ((i : Int) + 1)).toNat < ((A.queue.length : Int) - (i : Int)).toNat
      omega
  · rw [List.take_of_length_le (by omega)] at hov
    have y1 := d2.fz 1
    obtain ⟨a2, c2, rfl⟩ := owns_len hov
    repeat (any_goals ((with_reducible refine idO ?_); (with_reducible refine oM_gen fun Kv hK=>?_); simp [go_sem, c1, y1]; refine hK _ _ ?_; clear hK; clear Kv))
    have hb1 := d1.lt (.inl (.inl rfl))
    have hwf : WF { ({ A with F := setF A.F f (s, s) } : Ab) with queue := keepQ f A.queue } := settleA_wf d.wf f s hs
    have d3 := d2.setQ (q := keepQ f A.queue) hov (fun e => by have := hfr b e; omega) hwf
    refine k _ _ d3 (t1.trans ⟨?_, ?_, fun i hi => .inl hi⟩)
    · have : Fr (OwnR b h1) w1 w2 := f2.mono (fun i _ h => h.elim)
      exact this.set ⟨b, 1, none⟩ _ (.inl (.inl rfl))
    · rintro i (rfl | hi)
      · exact .inl (.inl rfl)
      · exact .inr (hfr i hi)
def survOne (F : Int → Bs × Bs) (p : Int × Int) : Int → Bs × Bs := if ((F p.1).1.length : Int) ≤ 64 * p.2 then F else setF F p.1 ((F p.1).1, putB (F p.1).2 (64 * p.2).toNat (DkSpec.sector (F p.1).1 p.2))
theorem setF_self (F : Int → Bs × Bs) (f : Int) : setF F f (F f) = F := by
  funext g
  unfold setF
  split
  · rename_i e; rw [e]
  · rfl
set_option maxHeartbeats 1000000 in
theorem survive_ok (d : IsRf w b A h) (p : Int × Int) (hp : 0 ≤ p.1 ∧ p.1 < 16 ∧ 0 ≤ p.2 ∧ p.2 < 262144) (k : ∀ w' h', IsRf w' b { A with F := survOne A.F p } h' → StepR w b h w' h' → K (.tuple #[]) w') : callM Tryz.prog 45 #[dkP b, secV p] K w := by
  apply rf_45_ok
  unfold rf_45 secV
  have hsz := d.wf.sz p.1
  obtain ⟨now, hnow⟩ : ∃ now, now = (A.F p.1).1 := ⟨_, rfl⟩
  obtain ⟨last, hlast⟩ : ∃ last, last = (A.F p.1).2 := ⟨_, rfl⟩
  obtain ⟨a, ha⟩ : ∃ a : Nat, (a : Int) = 64 * p.2 := ⟨(64 * p.2).toNat, by omega⟩
  unfold survOne at k
  repeat (any_goals ((with_reducible refine idO ?_); (with_reducible refine oM_gen fun Kv hK=>?_); simp [go_sem]; refine hK _ _ ?_; clear hK; clear Kv))
  have f0 : Fr (fun _ => False) w (w.alloc (.cells #[.int .i64 p.1, .int .i64 p.2] 82 (0, 0))) := (Fr.refl _ _).alloc _
  have n0 := heap_alloc_new w (.cells #[.int .i64 p.1, .int .i64 p.2] 82 (0, 0))
  have z0 := alloc_size w (.cells #[.int .i64 p.1, .int .i64 p.2] 82 (0, 0))
  generalize w.alloc (.cells #[.int .i64 p.1, .int .i64 p.2] 82 (0, 0)) = w0 at *
  have d0 := d.fresh f0
  have e0 := cell_of_block n0 0
  simp at e0
  repeat (any_goals (with_reducible refine fget_ok d0 p.1 ?_))
  intro w1 f1
  have n1 := (f1.block w.heap.size (by omega) (fun h => h)).trans n0
  have hz1 := f1.size
  rw [show filV p.1 (A.F p.1) = .agg #[.int .i64 p.1, .string ⟨now.toArray⟩, .string ⟨last.toArray⟩] by rw [hnow, hlast]; rfl]
  rw [← hnow, ← hlast] at hsz k
  repeat (any_goals ((with_reducible refine idO ?_); (with_reducible refine oM_gen fun Kv hK=>?_); simp [go_sem]; refine hK _ _ ?_; clear hK; clear Kv))
  have g2 : Fr (fun _ => False) w1 (w1.alloc (.cells #[.int .i64 p.1, .string ⟨now.toArray⟩, .string ⟨last.toArray⟩] 84 (0, 0))) := (Fr.refl _ _).alloc _
  have n2 := heap_alloc_new w1 (.cells #[.int .i64 p.1, .string ⟨now.toArray⟩, .string ⟨last.toArray⟩] 84 (0, 0))
  have z2 := alloc_size w1 (.cells #[.int .i64 p.1, .string ⟨now.toArray⟩, .string ⟨last.toArray⟩] 84 (0, 0))
  generalize w1.alloc (.cells #[.int .i64 p.1, .string ⟨now.toArray⟩, .string ⟨last.toArray⟩] 84 (0, 0)) = w2 at *
  have n02 := (g2.block w.heap.size (by omega) (fun h => h)).trans n1
  have f2 := (f0.trans f1 (fun _ h => h.elim)).trans g2 (fun _ h => h.elim)
  have m1 := cell_of_block n02 1
  have q1 := cell_of_block n2 1
  have q2 := cell_of_block n2 2
  simp at m1 q1 q2
  have hw64 : IntKind.i64.wrap (64 * p.2) = (a : Int) := by rw [wrapI64 _ (by omega) (by omega)]; omega
  refine ⟨fun l' w' => ∃ x : Bs × Bs, setF A.F p.1 x = (if (now.length : Int) ≤ 64 * p.2 then A.F else setF A.F p.1 (now, putB last (64 * p.2).toNat (DkSpec.sector now p.2))) ∧ x.1.length ≤ 16777216 ∧ x.2.length ≤ 16777216 ∧ w'.heap[w1.heap.size]? = some (.cells #[.int .i64 p.1, bsV x.1, bsV x.2] 84 (0, 0)) ∧ Fr (fun _ => False) w w', ?_, ?_⟩
  · repeat (any_goals (first
    | (with_reducible ((refine idCond ?_); refine yP (fun hg=>?_) fun hg=>?_))
    | ((with_reducible refine idO ?_); (with_reducible refine oM_gen fun Kv hK=>?_); simp [go_sem, m1, q1, hw64]; refine hK _ _ ?_; clear hK; clear Kv)))
    · have hbig : (a : Int) < (now.length : Int) := by omega
      have hmin : min ((a : Int) + 64) (now.length : Int) = ((min (a + 64) now.length : Nat) : Int) := by omega
      have hwr : IntKind.i64.wrap ((a : Int) + 64) = (a : Int) + 64 := wrapI64 _ (by omega) (by omega)
      have hsec : (now.drop a).take (min (a + 64) now.length - a) = DkSpec.sector now p.2 := by
        unfold DkSpec.sector
        rw [← ha, Int.toNat_natCast, List.take_eq_take_iff, List.length_drop]
        omega
      refine ⟨fun sg w' => sg ≤ 0 → w'.heap = w2.heap, fun _ => rfl, ?_⟩
      repeat (first | (with_reducible refine pureH_in ?_) | (with_reducible refine oH_nil ?_) | (with_reducible refine gdH_true rfl ?_) | (with_reducible refine gdH_false rfl ?_) | (refine oH_of ⟨_, rfl⟩ (fun W0 hW0 => by (obtain ⟨s0, hs0, hC⟩ := hW0); (refine oM_gen (fun Kv hK => ?_)); simp [go_sem, cell_heap (hC (by omega)), q1, q2, m1, hw64, hwr, hmin, ba_ext]; (first | exact hK _ _ ⟨rfl, rfl⟩ | exact ⟨by omega, hK _ _ ⟨rfl, rfl⟩⟩)) ?_))
      simp only [Int.toNat_natCast]
      rw [hsec]
      generalize hw3 : ({ w2 with drawn := w2.drawn + 1 } : World) = w3
      have f3 : Fr (fun _ => False) w w3 := by rw [← hw3]; exact f2.drew
      have n3 : w3.heap[w1.heap.size]? = some (.cells #[.int .i64 p.1, .string ⟨now.toArray⟩, .string ⟨last.toArray⟩] 84 (0, 0)) := by rw [← hw3]; exact n2
      clear hw3
      have hsl : (DkSpec.sector now p.2).length ≤ now.length - a := by rw [← hsec]; simp; omega
      refine rput_ok last (DkSpec.sector now p.2) (a : Int) (by omega) (by omega) hsz.2 (fun w4 f4 => ⟨fun hs => absurd hs (by decide), ?_⟩)
      rw [Int.toNat_natCast]
      have n4 := (f4.block w1.heap.size (Array.getElem?_eq_some_iff.1 n3).1 (fun h => h)).trans n3
      have y2 := frozen_of_block n4 2
      have r2 := cell_of_block n4 2
      simp at r2
      have n5 := block_set (i := 2) n4 (bsV (putB last a (DkSpec.sector now p.2)))
      repeat (any_goals (first
      | (with_reducible refine And.intro (fun hs => absurd hs (by decide)) ?_)
      | ((with_reducible refine idO ?_); (with_reducible refine oM_gen fun Kv hK=>?_); simp [go_sem, y2, r2]; refine hK _ _ ?_; clear hK; clear Kv)))
      have hpl := putB_length last a (DkSpec.sector now p.2)
      refine ⟨(now, putB last a (DkSpec.sector now p.2)), ?_, hsz.1, ?_, n5, (f3.trans f4 (fun _ h => h.elim)).set ⟨w1.heap.size, 2, none⟩ _ (.inr (show w.heap.size ≤ w1.heap.size by omega))⟩
      · rw [if_neg (by omega), ← ha, Int.toNat_natCast]
      · show (putB last a (DkSpec.sector now p.2)).length ≤ _
        rw [hpl]
        split
        · exact hsz.2
        · omega
    · have hsm : ¬ (a : Int) < (now.length : Int) := by omega
      refine ⟨(now, last), ?_, hsz.1, hsz.2, n2, f2⟩
      rw [if_pos (by omega), hnow, hlast]
      exact setF_self _ _
  · rintro l' u w6 ⟨x, hx, hx1, hx2, n6, f6⟩
    have p0 := cell_of_block n6 0
    have p1 := cell_of_block n6 1
    have p2 := cell_of_block n6 2
    simp at p0 p1 p2
    have hld := loadFil (o := 0) p0 p1 p2
    repeat (any_goals (rw [oM_load, hld, rM_ok]))
    refine set_ok (d.fresh f6) p.1 ⟨hp.1, hp.2.1⟩ x ⟨hx1, hx2⟩ (fun w7 h7 d7 t7 => ?_)
    skip
    refine k w7 h7 ?_ ((StepR.fresh f6).trans t7)
    rw [← hx]
    exact d7
end
end Go.Proofs
namespace Go.Proofs
open Go Go.Sh Go.RowKit DkSpec
set_option linter.unusedSimpArgs false
set_option linter.unusedVariables false
set_option maxRecDepth 10000
attribute [local go_sem] oM_indexAddr
section
variable {w w' : World} {b : Nat} {A : Ab} {h : Rh} {K : Value → World → Prop}
def durX (x : Int × Bs × Bs) : Int × Bs × Bs := (x.1, x.2.2, x.2.2)
theorem FilesIs.dur {F : Int → Bs × Bs} {l : List (Int × Bs × Bs)} (hF : FilesIs F l) : FilesIs (fun f => ((F f).2, (F f).2)) (l.map durX) := by
  refine ⟨?_, ?_, ?_⟩
  · rw [List.map_map]; exact hF.nd
  · intro x hx
    obtain ⟨y, hy, rfl⟩ := List.mem_map.1 hx
    exact hF.rng y hy
  · intro f
    have e : lookA (l.map durX) f = (lookA l f).map (fun y : Bs × Bs => (y.2, y.2)) := lookA_mapVal (fun (_ : Int) (y : Bs × Bs) => (y.2, y.2)) l f
    rw [e]
    have := hF.look f
    cases hl : lookA l f with
    | none => rw [hl] at this; simp only [Option.getD_none] at this; rw [← this]; rfl
    | some y => rw [hl] at this; simp only [Option.getD_some] at this; rw [← this]; rfl
set_option maxHeartbeats 1000000 in
theorem rcrEnd_ok (d : IsRf w b A h) (k : ∀ w' h', IsRf w' b { A with F := fun f => ((A.F f).2, (A.F f).2), queue := [] } h' → StepR w b h w' h' → K (.tuple #[]) w') : rcrEnd (dkP b) K w := by
  unfold rcrEnd
  obtain ⟨l, hF, ho⟩ := d.files
  have hl16 := hF.len
  obtain ⟨va, vc, hv⟩ := owns_len ho
  refine ⟨fun l' w' => ∃ (v : Value) (i : Nat), l' = [v, .int .i64 (i : Int)] ∧ i ≤ l.length ∧ Fr (fun _ => False) w w' ∧ w'.ownsRow 0 84 3 v i (flat filC ((l.take i).map durX)) ∧ (∀ j, v.ownBlock = some j → w.heap.size ≤ j), fun l' _ => match l' with | [_, .int _ m] => ((l.length : Int) - m).toNat | _ => 0, ⟨_, 0, rfl, by omega, Fr.refl _ _, World.ownsRow_nil _ _ _ _, fun j hj => by cases hj⟩, ?_⟩
  rintro l' u w1 ⟨v, i, rfl, hi, f1, hov, hfr⟩
  simp only [List.getD_cons_zero, List.getD_cons_succ]
  have d1 := d.fresh f1
  have c0 := d1.c 0
  simp only [rfCells, hv] at c0
  have ho1 : w1.ownsRow 0 84 3 h.fv l.length (flat filC l) := owns_keep ho (fun i hi => f1.block i (owns_own ho hi).1 (fun h => h))
  rw [hv] at ho1
  repeat (any_goals (first
  | (with_reducible ((refine idCond ?_); refine yP (fun hg=>?_) fun hg=>?_))
  | ((with_reducible refine idO ?_); (with_reducible refine oM_gen fun Kv hK=>?_); simp [go_sem, c0]; refine hK _ _ ?_; clear hK; clear Kv)))
  · have hlt : i < l.length := by omega
    obtain ⟨g, c, he, e0, e1, e2⟩ := fil_cells ho1 (List.getElem?_eq_getElem hlt)
    cases he
    refine ⟨fun sg w' => sg ≤ 0 → w'.heap = w1.heap, fun _ => rfl, ?_⟩
    repeat (first | (with_reducible refine pureH_in ?_) | (with_reducible refine oH_nil ?_) | (with_reducible refine gdH_true rfl ?_) | (with_reducible refine gdH_false rfl ?_) | (refine oH_of ⟨_, rfl⟩ (fun W0 hW0 => by (obtain ⟨s0, hs0, hC⟩ := hW0); (refine oM_gen (fun Kv hK => ?_)); simp [go_sem, cell_heap (hC (by omega)), c0, idxFil (g := g) (c := vc) hlt W0, e0, e2]; (first | exact hK _ _ ⟨rfl, rfl⟩ | exact ⟨by omega, hK _ _ ⟨rfl, rfl⟩⟩)) ?_))
    generalize hw2 : ({ w1 with drawn := w1.drawn + 1 } : World) = w2
    have f2 : Fr (fun _ => False) w w2 := by rw [← hw2]; exact f1.drew
    have hh : w2.heap = w1.heap := by rw [← hw2]
    clear hw2
    have hov2 : w2.ownsRow 0 84 3 v i (flat filC ((l.take i).map durX)) := owns_keep hov (fun i _ => by rw [hh])
    repeat (any_goals (first
    | (with_reducible refine And.intro (fun _ => hh) ?_) | (with_reducible refine And.intro (fun hs => absurd hs (by decide)) ?_)
    | ((with_reducible refine idO ?_); (with_reducible refine oM_gen fun Kv hK=>?_); simp [go_sem]; refine hK _ _ ?_; clear hK; clear Kv)))
    have g3 : Fr (fun _ => False) w2 (w2.alloc (.cells #[.int .i64 l[i].1, bsV l[i].2.2, bsV l[i].2.2] 84 (0, 0))) := (Fr.refl _ _).alloc _
    have n3 := heap_alloc_new w2 (.cells #[.int .i64 l[i].1, bsV l[i].2.2, bsV l[i].2.2] 84 (0, 0))
    generalize w2.alloc (.cells #[.int .i64 l[i].1, bsV l[i].2.2, bsV l[i].2.2] 84 (0, 0)) = w3 at *
    have hov3 : w3.ownsRow 0 84 3 v i (flat filC ((l.take i).map durX)) := owns_keep hov2 (fun i hi => g3.block i (owns_own hov2 hi).1 (fun h => h))
    have f3 := f2.trans g3 (fun _ h => h.elim)
    refine append_at 61 61 84 ((Tryz.prog.info? 84).getD default) (.agg #[.int .i64 0, .string ⟨#[]⟩, .string ⟨#[]⟩]) 3 40 (by kernel_rfl) (by kernel_rfl) (by kernel_rfl) (by kernel_rfl) (by kernel_rfl) (by kernel_rfl) (by omega) hov3 (filC (durX l[i])) rfl (fun h => by cases h) ?_ (filC_one _) (by simp only [maxLen]; omega) (by omega) ?_
    · rintro ad hu j y hj
      cases hu
      rw [add_none, Nat.zero_add, cell_of_block n3]
      match j, hj with
      | 0, hj => exact hj
      | 1, hj => exact hj
      | 2, hj => exact hj
    intro v' w4 ho4 g4 hv4
    repeat (any_goals (first
    | (with_reducible refine And.intro (fun hs => absurd hs (by decide)) ?_)
    | ((with_reducible refine idO ?_); (with_reducible refine oM_gen fun Kv hK=>?_); simp [go_sem]; (try simp (disch := omega) only [wrapI64, wrapU8, wrapU32, wrapU64]); refine hK _ _ ?_; clear hK; clear Kv)))
    refine ⟨⟨v', i + 1, rfl, hlt, f3.by g4 (fun j hj => .inr (hfr j hj)), ?_, fun j hj => (hv4 j hj).elim (hfr j) (fun e => by have := f3.size; omega)⟩, ?_⟩
    · rw [List.take_succ_eq_append_getElem hlt, List.map_append, List.map_cons, List.map_nil, flat_snoc]
      exact ho4
    · show ((l.length : Int) - ((i : Int) + 1)).toNat < ((l.length : Int) - (i : Int)).toNat
      omega
  · have hil : i = l.length := by omega
    subst hil
    rw [List.take_of_length_le (Nat.le_refl _)] at hov
    have y0 := d1.fz 0
    obtain ⟨a2, c2, rfl⟩ := owns_len hov
    have hb0 := d.lt (.inl (.inl rfl))
    have b2 := block_set (i := 0) d1.blk (.slice a2 l.length c2)
    have e1 := cell_of_block b2 1
    have y1 := frozen_of_block b2 1
    have b3 := block_set (i := 1) b2 (.slice none 0 0)
    simp [rfCells] at e1
    repeat (any_goals ((with_reducible refine idO ?_); (with_reducible refine oM_gen fun Kv hK=>?_); simp [go_sem, c0, y0, e1, y1]; refine hK _ _ ?_; clear hK; clear Kv))
    have hne : ∀ i, i ≠ b → ((w1.setCell ⟨b, 0, none⟩ (.slice a2 l.length c2)).setCell ⟨b, 1, none⟩ (.slice none 0 0)).heap[i]? = w1.heap[i]? := fun i hi => by rw [setCell_heap_ne _ _ _ _ hi, setCell_heap_ne _ _ _ _ hi]
    refine k _ { h with fv := .slice a2 l.length c2, qv := .slice none 0 0 } ⟨?_, ⟨_, hF.dur, ?_⟩, World.ownsRow_nil _ _ _ _, ?_, ?_⟩ ⟨?_, ?_, ?_⟩
    · rw [b3]; rfl
    · show World.ownsRow _ 0 _ 3 (.slice a2 l.length c2) (l.map durX).length _
      rw [List.length_map]
      exact owns_keep hov (fun i hi => hne i (fun e => by have := hfr i hi; omega))
    · exact owns_keep d1.kep (fun i hi => hne i (d1.fne (.inr hi)).1)
    · exact ⟨d.wf.l0, d.wf.l1, d.wf.a0, d.wf.a1, List.nodup_nil, fun p hp => absurd hp (by simp), fun f => ⟨(d.wf.sz f).2, (d.wf.sz f).2⟩, d.wf.kr, d.wf.kl⟩
    · have : Fr (OwnR b h) w w1 := f1.mono (fun i _ h => h.elim)
      exact (this.set ⟨b, 0, none⟩ _ (.inl (.inl rfl))).set ⟨b, 1, none⟩ _ (.inl (.inl rfl))
    · rintro i (rfl | hi)
      · exact .inl (.inl rfl)
      · cases hi
    · rintro i (hi | hi)
      · exact .inr (hfr i hi)
      · exact .inl (.inr hi)
theorem survAll_none (F : Int → Bs × Bs) (q : List (Int × Int)) (i : Nat) : survAll [] F i q = F := by
  induction q generalizing F i with
  | nil => rfl
  | cons p q ih =>
    unfold survAll
    rw [ih]
    unfold survF
    rw [if_pos (.inl rfl)]
theorem survF_odd {keep : List Int} {F : Int → Bs × Bs} {i : Nat} {p : Int × Int} (hk : keep ≠ []) (ho : keep.getD (i % keep.length) 0 % 2 = 1) : survF keep F i p = survOne F p := by
  unfold survF survOne
  by_cases h : ((F p.1).1.length : Int) ≤ 64 * p.2
  · rw [if_pos (.inr (.inr h)), if_pos h]
  · rw [if_neg h, if_neg]
    rintro (e | e | e)
    · exact hk e
    · omega
    · exact h e
set_option maxHeartbeats 1000000 in
theorem rcrash_ok (d : IsRf w b A h) {kv : Value} {kl : List Int} (hkl : kl.length < 2 ^ 62) (hkv : ∀ w', Fr (OwnR b h) w w' → RowR intC 1 w' kv kl) (k : ∀ w' h', IsRf w' b (crashA A kl) h' → StepR w b h w' h' → K (.tuple #[]) w') : callM Tryz.prog 21 #[dkP b, kv] K w := by
  apply rf_21_ok
  unfold rf_21
  have c3 := d.c 3
  have f3 := d.fz 3
  simp only [rfCells] at c3
  have d1 := d.set3 true
  have c4 := d1.c 4
  have f4 := d1.fz 4
  simp only [rfCells] at c4
  have d2 := d1.set4 0 (by omega)
  obtain ⟨ad, kc, hkvs, hk0, _⟩ := hkv w (Fr.refl _ _)
  subst hkvs
  repeat (any_goals (first
  | (with_reducible ((refine idCond ?_); refine yY (fun hg=>?_) fun hg=>?_))
  | ((with_reducible refine idO ?_); (with_reducible refine oM_gen fun Kv hK=>?_); simp [go_sem, c3, f3, c4, f4]; refine hK _ _ ?_; clear hK; clear Kv)))
  · have e : crashA A kl = A := by unfold crashA; rw [if_pos hg]
    rw [e] at k
    exact k w h d (StepR.refl _ _ _)
  have hdown : A.down = false := hg
  have t2 : StepR w b h ((w.setCell ⟨b, 3, none⟩ (.bool true)).setCell ⟨b, 4, none⟩ (.int .i64 0)) h := (stepR_set _ _ _ _ _).trans (stepR_set _ _ _ _ _)
  generalize (w.setCell ⟨b, 3, none⟩ (.bool true)).setCell ⟨b, 4, none⟩ (.int .i64 0) = w2 at *
  refine ⟨fun l w' => ∃ i : Nat, l = [.int .i64 (i : Int)] ∧ i ≤ A.queue.length ∧ ∃ h', IsRf w' b { A with F := survAll kl A.F 0 (A.queue.take i), down := true, armed := 0 } h' ∧ StepR w b h w' h', fun l _ => match l with | [.int _ n] => ((A.queue.length : Int) - n).toNat | _ => 0, ⟨0, rfl, by omega, h, d2, t2⟩, ?_⟩
  rintro l u w3 ⟨i, rfl, hin, h3, d3, t3⟩
  have hqlen := d.wf.ql
  simp only [List.getD_cons_zero]
  have c1 := d3.c 1
  obtain ⟨qa, qc, hq⟩ := owns_len d3.que
  have hq' : h3.qv = .slice qa A.queue.length qc := hq
  simp only [rfCells, hq'] at c1
  have fin : ∀ (F : Int → Bs × Bs), F = survAll kl A.F 0 A.queue → IsRf w3 b { A with F := F, down := true, armed := 0 } h3 → rcrEnd (dkP b) K w3 := by
    intro F hF d3
    have e : crashA A kl = { ({ A with F := F, down := true, armed := 0 } : Ab) with F := fun f => ((F f).2, (F f).2), queue := [] } := by
      unfold crashA
      rw [if_neg (by rw [hdown]; simp), hF]
    rw [e] at k
    exact rcrEnd_ok d3 (fun w' h' d' t' => k w' h' d' (t3.trans t'))
  by_cases hkn : kl = []
  · subst hkn
    rw [survAll_none] at d3
    by_cases hil : (i : Int) < (A.queue.length : Int)
    · repeat (any_goals (first
      | (with_reducible first|refine pureM_in ?_|((refine idGd ?_); ((refine idGdD ?_); refine zF ?_))|((refine idPick ?_); refine yD ?_)|((refine idCond ?_); refine yM ?_))
      | ((with_reducible refine idO ?_); (with_reducible refine oM_gen fun Kv hK=>?_); simp [go_sem, c1]; refine hK _ _ ?_; clear hK; clear Kv)))
      exact fin _ (survAll_none _ _ _).symm d3
    · repeat (any_goals (first
      | (with_reducible first|((refine idGd ?_); ((refine idGdD ?_); refine zG ?_))|((refine idPick ?_); refine yE ?_)|((refine idCond ?_); refine yM ?_))
      | ((with_reducible refine idO ?_); (with_reducible refine oM_gen fun Kv hK=>?_); simp [go_sem, c1]; refine hK _ _ ?_; clear hK; clear Kv)))
      exact fin _ (survAll_none _ _ _).symm d3
  have hkpos : 0 < kl.length := List.length_pos_iff.2 hkn
  by_cases hil : (i : Int) < (A.queue.length : Int)
  · have hlt : i < A.queue.length := by omega
    obtain ⟨Fi, hFi⟩ : ∃ Fi, Fi = survAll kl A.F 0 (A.queue.take i) := ⟨_, rfl⟩
    rw [← hFi] at d3
    have hnext : survAll kl A.F 0 (A.queue.take (i + 1)) = survF kl Fi i A.queue[i] := by
      rw [List.take_succ_eq_append_getElem hlt, survAll_snoc, ← hFi, List.length_take, Nat.zero_add, Nat.min_eq_left (by omega)]
    have hkr3 := hkv w3 t3.fr
    have ho3 : w3.ownsRow 0 82 2 (.slice qa A.queue.length qc) A.queue.length (flat secC A.queue) := by
      have := d3.que
      rw [hq'] at this
      exact this
    obtain ⟨g, c, he, e0, e1⟩ := secR_cells ho3 (List.getElem?_eq_getElem hlt)
    cases he
    have hix := idxSecR (g := g) (c := qc) hlt w3
    have hld := loadSecR e0 e1
    obtain ⟨ad', c', hkvs', _, hc⟩ := hkr3
    cases hkvs'
    rcases hc with hc | ⟨kb, ko, rfl, hkb, hc⟩
    · exact absurd hc hkn
    have hmod : ((i : Int)).tmod (kl.length : Int) = ((i % kl.length : Nat) : Int) := by
      rw [tmodN _ _ (by omega)]; rfl
    have hml : i % kl.length < kl.length := Nat.mod_lt _ hkpos
    have hki := hc (i % kl.length) (i64V kl[i % kl.length]) (by rw [show flat intC kl = kl.map i64V from flat_one i64V kl]; simp [hml])
    unfold i64V at hki
    have hixk : (Instr.indexAt 36 (.slice (some ⟨kb, ko, none⟩) kl.length kc) (.int .i64 ((i % kl.length : Nat) : Int))).run Tryz.prog w3 = .ok (.pointer (some ⟨kb, ko + i % kl.length, none⟩)) w3 := by
      rw [run_indexAt_slice (h := by kernel_rfl), if_pos (by omega)]
      have hs : (sizeOf (Tryz.prog.elem 36)).run Tryz.prog w3 = .ok 1 w3 := by kernel_rfl
      rw [hs]
      simp only [Result.andThen, Int.toNat_natCast, add_none, Nat.mul_one]
    rw [Int.natCast_emod] at hixk
    have hgd : kl.getD (i % kl.length) 0 = kl[i % kl.length] := by simp [List.getD, hml]
    obtain ⟨kx, hkx⟩ : ∃ kx, kx = kl[i % kl.length] := ⟨_, rfl⟩
    rw [← hkx] at hki hgd
    clear hkx hc fin
    have hpr := d.wf.qr A.queue[i] (List.getElem_mem hlt)
    repeat (any_goals (first
    | (with_reducible first|refine pureM_in ?_|((refine idGd ?_); ((refine idGdD ?_); refine zF ?_))|((refine idPick ?_); refine yD ?_)|((refine idCond ?_); refine yN ?_))
    | ((with_reducible refine idO ?_); (with_reducible refine oM_gen fun Kv hK=>?_); simp [go_sem, c1]; refine hK _ _ ?_; clear hK; clear Kv)))
    refine ⟨fun l w' => ∃ h', IsRf w' b { A with F := survAll kl A.F 0 (A.queue.take (i + 1)), down := true, armed := 0 } h' ∧ StepR w b h w' h', ?_, ?_⟩
    · rw [hnext]
      repeat (any_goals (first
      | (rw [oM_load, hld, rM_ok])
      | (with_reducible ((refine idCond ?_); refine yP (fun hg=>?_) fun hg=>?_))
      | ((with_reducible refine idO ?_); (with_reducible refine oM_gen fun Kv hK=>?_); simp [go_sem, hmod, hixk, hki, c1, hix]; (first|refine hK _ _ ?_|refine And.intro (by omega) (hK _ _ ?_)); clear hK; clear Kv)))
      · have hodd : kx % 2 = 1 := by assumption
        rw [survF_odd hkn (by rw [hgd]; exact hodd)]
        refine survive_ok d3 A.queue[i] hpr (fun w4 h4 d4 t4 => ⟨h4, d4, t3.trans t4⟩)
      · have hev : ¬ kx % 2 = 1 := by assumption
        have hsv : survF kl Fi i A.queue[i] = Fi := by unfold survF; rw [if_pos (.inr (.inl (by rw [hgd]; omega)))]
        rw [hsv]
        exact ⟨h3, d3, t3⟩
    · rintro l u w4 ⟨h4, d4, t4⟩
      repeat (any_goals ((with_reducible refine idO ?_); (with_reducible refine oM_gen fun Kv hK=>?_); simp [go_sem]; (try simp (disch := omega) only [wrapI64, wrapU8, wrapU32, wrapU64]); refine hK _ _ ?_; clear hK; clear Kv))
      refine ⟨⟨i + 1, rfl, by omega, h4, d4, t4⟩, ?_⟩
      show ((A.queue.length : Int) - ((i : Int) + 1)).toNat < _
      omega
  · rw [List.take_of_length_le (by omega)] at d3
    repeat (any_goals (first
    | (with_reducible first|((refine idGd ?_); ((refine idGdD ?_); refine zG ?_))|((refine idPick ?_); refine yE ?_)|((refine idCond ?_); refine yM ?_))
    | ((with_reducible refine idO ?_); (with_reducible refine oM_gen fun Kv hK=>?_); simp [go_sem, c1]; refine hK _ _ ?_; clear hK; clear Kv)))
    exact fin _ rfl d3
end
end Go.Proofs
namespace DkSpec
variable {C : Ab} {a : Int} {kl : List Int}
theorem mayA_down {A : Ab} {f : Int} (h : A.down = true) : mayA A f = 8 := by
  unfold mayA; rw [if_pos h]
end DkSpec
namespace Go.Proofs
open Go Go.Sh Go.RowKit DkSpec
set_option linter.unusedSimpArgs false
set_option linter.unusedVariables false
set_option maxRecDepth 10000
attribute [local go_sem] oM_indexAddr
section
variable {w w' : World} {b : Nat} {A : Ab} {h : Rh} {K : Value → World → Prop}
theorem IsRf.keepRow (d : IsRf w b A h) : RowR intC 1 w h.kv A.keep := by
  have := d.kep
  rw [show A.keep.map i64V = flat intC A.keep from (flat_one i64V A.keep).symm] at this
  exact RowR.of_owns this
theorem rcrashK_ok (d : IsRf w b A h) (k : ∀ w' h', IsRf w' b (crashA A A.keep) h' → StepR w b h w' h' → K (.tuple #[]) w') : callM Tryz.prog 21 #[dkP b, h.kv] K w :=
  rcrash_ok d d.wf.kl (fun w' f => d.keepRow.keep f.size (fun i hi hlt => f.block i hlt (fun ho => by
    have hk := inBlock_own d.kep hi
    have := d.fne (.inr hk)
    rcases ho with rfl | ho
    · exact this.1 rfl
    · exact this.2 ho))) k
theorem rcomes_ok (d : IsRf w b A h) (f at_ : Int) (s : Bs) (hs : s.length < 2 ^ 60) (hat : -2 ^ 63 ≤ at_ ∧ at_ < 2 ^ 63) (k : ∀ w' h', IsRf w' b (if (endsA A).1 = true then crashA (wrA (endsA A).2 f at_ s).2 (wrA (endsA A).2 f at_ s).2.keep else (endsA A).2) h' → StepR w b h w' h' → K (.tuple #[]) w') : callM Tryz.prog 55 #[dkP b, .int .i64 f, .int .i64 at_, bsV s] K w := by
  apply rf_55_ok
  unfold rf_55
  have c3 := d.c 3
  have c4 := d.c 4
  have f4 := d.fz 4
  simp only [rfCells] at c3 c4
  have a0 := d.wf.a0
  have a1 := d.wf.a1
  by_cases hd : A.down = true
  · have e : endsA A = (false, A) := by unfold endsA; rw [if_pos (.inl hd)]
    rw [e] at k
    repeat (any_goals (first
    | (with_reducible first|((refine idGd ?_); refine zD ?_)|((refine idPick ?_); refine yB ?_)|((refine idCond ?_); refine yL ?_))
    | ((with_reducible refine idO ?_); (with_reducible refine oM_gen fun Kv hK=>?_); simp [go_sem, c3, hd]; refine hK _ _ ?_; clear hK; clear Kv)))
    exact k w h d (StepR.refl _ _ _)
  · have hd' : A.down = false := by cases h : A.down with | true => exact absurd h hd | false => rfl
    by_cases ha : A.armed = 0
    · have e : endsA A = (false, A) := by unfold endsA; rw [if_pos (.inr ha)]
      rw [e] at k
      repeat (any_goals (first
      | (with_reducible first|refine pureM_in ?_|((refine idGd ?_); refine zC ?_)|((refine idPick ?_); refine yC ?_)|((refine idCond ?_); refine yN ?_))
      | ((with_reducible refine idO ?_); (with_reducible refine oM_gen fun Kv hK=>?_); simp [go_sem, c3, hd', c4]; refine hK _ _ ?_; clear hK; clear Kv)))
      exact k w h d (StepR.refl _ _ _)
    · have e : endsA A = (decide (A.armed = 1), { A with armed := A.armed - 1 }) := by unfold endsA; rw [if_neg (by rintro (h | h); exact hd h; exact ha h)]
      rw [e] at k
      have d1 := d.set4 (A.armed - 1) (by omega)
      have c41 := d1.c 4
      simp only [rfCells] at c41
      have t1 := stepR_set w b 4 h (.int .i64 (A.armed - 1))
      repeat (any_goals (first
      | (with_reducible first|refine pureM_in ?_|((refine idGd ?_); refine zC ?_)|((refine idPick ?_); refine yC ?_)|((refine idCond ?_); first|refine yO ?_|refine yP (fun hg=>?_) fun hg=>?_))
      | ((with_reducible refine idO ?_); (with_reducible refine oM_gen fun Kv hK=>?_); simp [go_sem, c3, hd', c4, f4, c41]; (try simp (disch := omega) only [wrapI64, wrapU8, wrapU32, wrapU64]); refine hK _ _ ?_; clear hK; clear Kv)))
      all_goals generalize w.setCell ⟨b, 4, none⟩ (.int .i64 (A.armed - 1)) = w1 at *
      · rw [decide_eq_false (by omega)] at k
        exact k w1 h d1 t1
      · rw [decide_eq_true (by omega)] at k
        simp only [if_true] at k
        obtain ⟨A1, hA1⟩ : ∃ A1, A1 = ({ A with armed := A.armed - 1 } : Ab) := ⟨_, rfl⟩
        rw [← hA1] at d1 k
        have hdn : A1.down = false := by rw [hA1]; exact hd'
        refine ⟨fun _ w' => ∃ h', IsRf w' b (wrA A1 f at_ s).2 h' ∧ StepR w b h w' h', ?_, ?_⟩
        · by_cases hf0 : 0 ≤ f
          · by_cases hf1 : f ≤ 15
            · have hm : mayA A1 f = 0 := mayA_up hdn ⟨hf0, by omega⟩
              by_cases hfit : 0 ≤ at_ ∧ at_ + s.length ≤ 16777216
              · have ew : (wrA A1 f at_ s).2 = addA A1 f at_.toNat s := by
                  unfold wrA
                  rw [if_neg (by omega), if_neg (by omega), if_neg (by omega)]
                rw [ew]
                repeat (any_goals (first
                | ((with_reducible refine rfits_ok at_ s hs hat ?_); rw [decide_eq_true hfit]) | (with_reducible refine add_ok d1 f ⟨hf0, by omega⟩ at_ hfit.1 s hfit.2 ?_)
                | (with_reducible first|refine pureM_in ?_|((refine idGd ?_); ((refine idGdD ?_); refine zF ?_))|((refine idPick ?_); refine yD ?_)|((refine idCond ?_); refine yL ?_))
                | ((with_reducible refine idO ?_); (with_reducible refine oM_gen fun Kv hK=>?_); simp [go_sem]; refine hK _ _ ?_; clear hK; clear Kv)))
                intro w2 h2 d2 t2
                exact ⟨h2, d2, t1.trans t2⟩
              · have ew : (wrA A1 f at_ s).2 = A1 := by
                  unfold wrA
                  rw [if_neg (by omega)]
                  split
                  · rfl
                  · rw [if_pos (by omega)]
                rw [ew]
                repeat (any_goals (first
                | ((with_reducible refine rfits_ok at_ s hs hat ?_); rw [decide_eq_false hfit])
                | (with_reducible first|refine pureM_in ?_|((refine idGd ?_); ((refine idGdD ?_); refine zF ?_))|((refine idPick ?_); refine yD ?_)|((refine idCond ?_); refine yM ?_))
                | ((with_reducible refine idO ?_); (with_reducible refine oM_gen fun Kv hK=>?_); simp [go_sem]; refine hK _ _ ?_; clear hK; clear Kv)))
                exact ⟨h, d1, t1⟩
            · have ew : (wrA A1 f at_ s).2 = A1 := by
                unfold wrA mayA
                rw [hdn]
                simp only [Bool.false_eq_true, if_false]
                rw [if_pos (by rw [if_pos (by omega)]; decide)]
              rw [ew]
              repeat (any_goals (first
              | (with_reducible first|refine pureM_in ?_|((refine idGd ?_); ((refine idGdD ?_); first|refine zF ?_|refine zG ?_))|((refine idPick ?_); first|refine yD ?_|refine yE ?_)|((refine idCond ?_); refine yM ?_))
              | ((with_reducible refine idO ?_); (with_reducible refine oM_gen fun Kv hK=>?_); simp [go_sem]; refine hK _ _ ?_; clear hK; clear Kv)))
              exact ⟨h, d1, t1⟩
          · have ew : (wrA A1 f at_ s).2 = A1 := by
              unfold wrA mayA
              rw [hdn]
              simp only [Bool.false_eq_true, if_false]
              rw [if_pos (by rw [if_pos (by omega)]; decide)]
            rw [ew]
            repeat (any_goals (first
            | (with_reducible first|((refine idGd ?_); first|refine zB ?_|((refine idGdD ?_); refine zG ?_))|((refine idPick ?_); first|refine yC ?_|refine yE ?_)|((refine idCond ?_); refine yM ?_))
            | ((with_reducible refine idO ?_); (with_reducible refine oM_gen fun Kv hK=>?_); simp [go_sem]; refine hK _ _ ?_; clear hK; clear Kv)))
            exact ⟨h, d1, t1⟩
        · rintro l u w2 ⟨h2, d2, t2⟩
          have c5 := d2.c 5
          simp only [rfCells] at c5
          repeat (any_goals (first
          | (with_reducible refine rcrashK_ok d2 ?_)
          | ((with_reducible refine idO ?_); (with_reducible refine oM_gen fun Kv hK=>?_); simp [go_sem, c5]; refine hK _ _ ?_; clear hK; clear Kv)))
          intro w3 h3 d3 t3
          skip
          exact k w3 h3 d3 (t2.trans t3)
theorem rWrite_ok (d : IsRf w b A h) (f at_ : Int) (s : Bs) (hs : s.length < 2 ^ 60) (hat : -2 ^ 63 ≤ at_ ∧ at_ < 2 ^ 63) (k : ∀ w' h', IsRf w' b (writeA A f at_ s).2 h' → StepR w b h w' h' → K (.int .i64 (writeA A f at_ s).1) w') : callM Tryz.prog 42 #[dkP b, .int .i64 f, .int .i64 at_, bsV s] K w := by
  apply rf_42_ok
  unfold rf_42
  refine rcomes_ok d f at_ s hs hat (fun w1 h1 d1 t1 => ?_)
  unfold writeA at k
  refine rmay_ok d1 f ?_
  by_cases he : (endsA A).1 = true
  · rw [if_pos he] at d1 k ⊢
    rw [mayA_down (crashA_down _ _)]
    repeat (any_goals (first
    | (with_reducible ((refine idCond ?_); refine yL ?_))
    | ((with_reducible refine idO ?_); (with_reducible refine oM_gen fun Kv hK=>?_); simp [go_sem]; refine hK _ _ ?_; clear hK; clear Kv)))
    exact k w1 h1 d1 t1
  · rw [if_neg he] at d1 k ⊢
    generalize (endsA A).2 = A1 at *
    have kk : ∀ r A', wrA A1 f at_ s = (r, A') → ∀ w' h', IsRf w' b A' h' → StepR w b h w' h' → K (.int .i64 r) w' := by
      intro r A' e w' h' h1 h2
      have := k w' h' (by rw [e]; exact h1) h2
      rw [e] at this
      exact this
    unfold wrA at kk
    repeat (any_goals (first
    | (with_reducible ((refine idCond ?_); first|refine yP (fun hg=>?_) fun hg=>?_|refine yS (fun hg=>?_) fun hg=>?_))
    | ((with_reducible refine idO ?_); (with_reducible refine oM_gen fun Kv hK=>?_); simp [go_sem]; refine hK _ _ ?_; clear hK; clear Kv)))
    · rename_i hm
      exact kk 1 A1 (by rw [if_neg (by omega), if_pos hg]) w1 h1 d1 t1
    · rename_i hm
      have h0 := hg
      refine rfits_ok at_ s hs hat ?_
      by_cases hfit : 0 ≤ at_ ∧ at_ + s.length ≤ 16777216
      · rw [decide_eq_true hfit]
        have hmr := mayA_ok hm
        repeat (any_goals (first
        | (with_reducible refine add_ok d1 f hmr.2 at_ hfit.1 s hfit.2 ?_)
        | (with_reducible ((refine idCond ?_); refine yM ?_))
        | ((with_reducible refine idO ?_); (with_reducible refine oM_gen fun Kv hK=>?_); simp [go_sem]; refine hK _ _ ?_; clear hK; clear Kv)))
        intro w2 h2 d2 t2
        skip
        exact kk 0 _ (by rw [if_neg (by omega), if_neg h0, if_neg (by omega)]) w2 h2 d2 (t1.trans t2)
      · rw [decide_eq_false hfit]
        repeat (any_goals (first
        | (with_reducible ((refine idCond ?_); refine yL ?_))
        | ((with_reducible refine idO ?_); (with_reducible refine oM_gen fun Kv hK=>?_); simp [go_sem]; refine hK _ _ ?_; clear hK; clear Kv)))
        exact kk 6 A1 (by rw [if_neg (by omega), if_neg h0, if_pos (by omega)]) w1 h1 d1 t1
    · exact kk (mayA A1 f) A1 (by rw [if_pos hg]) w1 h1 d1 t1
theorem comes_nil (A : Ab) : (if (endsA A).1 = true then crashA (wrA (endsA A).2 0 0 []).2 (wrA (endsA A).2 0 0 []).2.keep else (endsA A).2) = comesA A := by
  have e : (wrA (endsA A).2 0 0 []).2 = (endsA A).2 := by
    unfold wrA
    repeat' split
    all_goals rfl
  rw [e]
  rfl
theorem rSync_ok (d : IsRf w b A h) (f : Int) (k : ∀ w' h', IsRf w' b (syncA A f).2 h' → StepR w b h w' h' → K (.int .i64 (syncA A f).1) w') : callM Tryz.prog 36 #[dkP b, .int .i64 f] K w := by
  apply rf_36_ok
  unfold rf_36
  refine rcomes_ok d 0 0 [] (by simp) (by omega) (fun w1 h1 d1 t1 => ?_)
  rw [comes_nil] at d1
  refine rmay_ok d1 f ?_
  have c2 := d1.c 2
  have f2 := d1.fz 2
  simp only [rfCells] at c2
  have l0 := d1.wf.l0
  have l1 := d1.wf.l1
  unfold syncA at k
  repeat (any_goals (first
  | (with_reducible ((refine idCond ?_); first|refine yP (fun hg=>?_) fun hg=>?_|refine yS (fun hg=>?_) fun hg=>?_))
  | ((with_reducible refine idO ?_); (with_reducible refine oM_gen fun Kv hK=>?_); simp [go_sem, c2, f2]; (try simp (disch := omega) only [wrapI64, wrapU8, wrapU32, wrapU64]); refine hK _ _ ?_; clear hK; clear Kv)))
  · rename_i hm
    rw [if_neg (by omega), if_pos hg] at k
    exact k _ _ (d1.set2 ((comesA A).lost - 1) (by omega)) (t1.trans (stepR_set _ _ _ _ _))
  · rename_i hm
    rw [if_neg (by omega), if_neg hg] at k
    refine fget_ok d1 f (fun w2 f2 => ?_)
    unfold filV
    repeat (any_goals ((with_reducible refine idO ?_); (with_reducible refine oM_gen fun Kv hK=>?_); simp [go_sem]; refine hK _ _ ?_; clear hK; clear Kv))
    refine rsettle_ok (d1.fresh f2) f (mayA_ok hm).2 ((comesA A).F f).1 (d1.wf.sz f).1 (fun w3 h3 d3 t3 => ?_)
    skip
    exact k w3 h3 d3 (t1.trans ((StepR.fresh f2).trans t3))
  · rw [if_pos hg] at k
    exact k _ _ d1 t1
theorem rTrunc_ok (d : IsRf w b A h) (f n : Int) (k : ∀ w' h', IsRf w' b (truncA A f n).2 h' → StepR w b h w' h' → K (.int .i64 (truncA A f n).1) w') : callM Tryz.prog 39 #[dkP b, .int .i64 f, .int .i64 n] K w := by
  apply rf_39_ok
  unfold rf_39
  refine rcomes_ok d 0 0 [] (by simp) (by omega) (fun w1 h1 d1 t1 => ?_)
  rw [comes_nil] at d1
  refine rmay_ok d1 f ?_
  unfold truncA at k
  repeat (any_goals (first
  | (with_reducible ((refine idCond ?_); refine yS (fun hg=>?_) fun hg=>?_))
  | ((with_reducible refine idO ?_); (with_reducible refine oM_gen fun Kv hK=>?_); simp [go_sem]; refine hK _ _ ?_; clear hK; clear Kv)))
  · have hm : mayA (comesA A) f = 0 := hg
    rw [if_neg (by omega)] at k
    refine fget_ok d1 f (fun w2 f2 => ?_)
    unfold filV
    repeat (any_goals (first
    | (with_reducible first|refine pureM_in ?_|((refine idGd ?_); ((refine idGdD ?_); first|refine zI ?_|refine zJ ?_|refine zK (fun hg=>?_) fun hg=>?_))|((refine idPick ?_); first|refine yD ?_|refine yE ?_)|((refine idCond ?_); first|refine yL ?_|refine yP (fun hg=>?_) fun hg=>?_))
    | ((with_reducible refine idO ?_); (with_reducible refine oM_gen fun Kv hK=>?_); simp [go_sem]; (first|refine hK _ _ ?_|refine And.intro (by omega) (hK _ _ ?_)); clear hK; clear Kv)))
    · rw [if_pos (.inl hg)] at k
      exact k _ _ (d1.fresh f2) (t1.trans (StepR.fresh f2))
    · rw [if_pos (.inr (by omega))] at k
      exact k _ _ (d1.fresh f2) (t1.trans (StepR.fresh f2))
    · rw [if_neg (by omega)] at k
      have hsz := (d1.wf.sz f).1
      have e : (⟨((comesA A).F f).1.toArray⟩ : ByteArray).extract 0 n.toNat = ⟨(((comesA A).F f).1.take n.toNat).toArray⟩ := by
        rw [ba_ext]; simp
      try rw [e]
      refine rsettle_ok (d1.fresh f2) f (mayA_ok hm).2 (((comesA A).F f).1.take n.toNat) (by simp; omega) (fun w3 h3 d3 t3 => ?_)
      skip
      exact k w3 h3 d3 (t1.trans ((StepR.fresh f2).trans t3))
  · rw [if_pos hg] at k
    exact k _ _ d1 t1
theorem rarm_ok (d : IsRf w b A h) (n : Int) (hn : n < 2 ^ 63) {v : Value} {l : List Int} (hr : RowR intC 1 w v l) (hvb : ∀ w', Fr (OwnR b h) w w' → RowR intC 1 w' v l) (hl : l.length < 2 ^ 40) (hk : ∀ x ∈ l, -2 ^ 63 ≤ x ∧ x < 2 ^ 63) (k : ∀ w' h', IsRf w' b (armA A n l) h' → StepR w b h w' h' → K (.tuple #[]) w') : callM Tryz.prog 19 #[dkP b, .int .i64 n, v] K w := by
  apply rf_19_ok
  unfold rf_19
  have c4 := d.c 4
  have f4 := d.fz 4
  simp only [rfCells] at c4
  have d1 := d.set4 (max n 0) (by omega)
  have t1 := stepR_set w b 4 h (.int .i64 (max n 0))
  repeat (any_goals ((with_reducible refine idO ?_); (with_reducible refine oM_gen fun Kv hK=>?_); simp [go_sem, c4, f4]; refine hK _ _ ?_; clear hK; clear Kv))
  have hr1 := hvb _ t1.fr
  have hz1 : (w.setCell ⟨b, 4, none⟩ (.int .i64 (max n 0))).heap.size = w.heap.size := by simp [World.setCell]
  generalize w.setCell ⟨b, 4, none⟩ (.int .i64 (max n 0)) = w1 at *
  have g2 : Fr (fun _ => False) w1 (w1.alloc (.cells #[] 3 (0, 0))) := (Fr.refl _ _).alloc _
  have hr2 : RowR intC 1 (w1.alloc (.cells #[] 3 (0, 0))) v l := hr1.keep (by rw [alloc_size]; omega) (fun i _ hi => heap_alloc_old _ _ hi)
  have z2 := alloc_size w1 (.cells #[] 3 (0, 0))
  have ho2 := World.ownsRow_lit (e := 3) (size := 1) (base := 0) w1 #[] 0 (Nat.zero_le _) (Nat.zero_le _) rfl
  rw [hz1] at ho2
  generalize w1.alloc (.cells #[] 3 (0, 0)) = w2 at *
  refine clone_at 36 36 3 ((Tryz.prog.info? 3).getD default) (.int .i64 0) 1 8 (by kernel_rfl) (by kernel_rfl) (by kernel_rfl) (by kernel_rfl) (by kernel_rfl) (by kernel_rfl) (by omega) (fun _ => rfl) (fun x u hu => by simp [intC] at hu; subst hu; rfl) hr2 ho2 (B := w.heap.size) (by omega) (fun i hi => by cases hi; exact Nat.le_refl _) (by omega) (by omega) ?_
  intro v' w3 ho3 g3 hv3
  have f3 : Fr (fun _ => False) w1 w3 := g2.by g3 (fun i hi => by cases hi; exact .inr (by show w1.heap.size ≤ w.heap.size; omega))
  have d3 := d1.fresh f3
  have e5 := d3.c 5
  have y5 := d3.fz 5
  simp only [rfCells] at e5
  obtain ⟨va, vc, rfl⟩ := owns_len ho3
  repeat (any_goals ((with_reducible refine idO ?_); (with_reducible refine oM_gen fun Kv hK=>?_); simp [go_sem, e5, y5]; refine hK _ _ ?_; clear hK; clear Kv))
  have hne : ∀ i, i ≠ b → (w3.setCell ⟨b, 5, none⟩ (.slice va l.length vc)).heap[i]? = w3.heap[i]? := fun i hi => setCell_heap_ne _ _ _ _ hi
  have hb1 := d1.lt (.inl (.inl rfl))
  obtain ⟨lf, hF, hof⟩ := d3.files
  refine k _ { h with kv := .slice va l.length vc } ⟨?_, ⟨lf, hF, owns_keep hof (fun i hi => hne i (d3.fne (.inl hi)).1)⟩, owns_keep d3.que (fun i hi => hne i (d3.qne hi).1), ?_, armA_wf d.wf n hn l hk (by omega)⟩ (t1.trans ⟨?_, fun i hi => .inl hi, ?_⟩)
  · rw [block_set d3.blk]; rfl
  · show World.ownsRow _ 0 _ 1 (.slice va l.length vc) l.length (l.map i64V)
    rw [show l.map i64V = flat intC l from (flat_one i64V l).symm]
    exact owns_keep ho3 (fun i hi => hne i (fun e => by have := hv3 i hi; omega))
  · have : Fr (OwnR b h) w1 w3 := f3.mono (fun i _ h => h.elim)
    exact this.set ⟨b, 5, none⟩ _ (.inl (.inl rfl))
  · rintro i (hi | hi)
    · exact .inl (.inl hi)
    · exact .inr (by have := hv3 i hi; omega)
end
end Go.Proofs
namespace Go.Proofs
open Go Go.Sh Go.RowKit CodeSpec JnSpec DkSpec
set_option linter.unusedSimpArgs false
set_option linter.unusedVariables false
set_option maxRecDepth 10000
attribute [local go_sem] oM_indexAddr
def jrCells (b : Nat) (f : Int) (lv : Value) (t : Bool) : List Value := [dkP b, .int .i64 f, lv, .bool t]
structure IsJr (w : World) (b : Nat) (h : Rh) (q : Nat) (f : Int) (j : Jn) (lv : Value) : Prop where
  blk : Holds w q 49 (jrCells b f lv j.broken)
  row : w.ownsRow 0 9 1 lv j.recs.length (j.recs.map Cd.strV)
  qv : lv.ownBlock ≠ some q
  sep : ∀ i, JO q lv i → ¬ OwnR b h i ∧ ¬ RdbR h i
  few : Few j.recs
  byt : j.bytes = (formL j.recs).length
  len : j.recs.length ≤ j.bytes ∧ j.bytes ≤ 16777216
structure JStR (w : World) (b : Nat) (h : Rh) (q : Nat) (lv : Value) (w' : World) (h' : Rh) (lv' : Value) : Prop where
  fr : Fr (fun i => OwnR b h i ∨ JO q lv i) w w'
  own : ∀ i, OwnR b h' i → OwnR b h i ∨ w.heap.size ≤ i
  rd : ∀ i, RdbR h' i → RdbR h i ∨ w.heap.size ≤ i
  jo : ∀ i, JO q lv' i → JO q lv i ∨ w.heap.size ≤ i
section
variable {w w' w2 : World} {b q : Nat} {A A' : Ab} {h h' h2 : Rh} {f : Int} {j j' : Jn} {v v' v2 : Value} {K : Value → World → Prop}
theorem JStR.refl : JStR w b h q v w h v := ⟨Fr.refl _ _, fun _ h => .inl h, fun _ h => .inl h, fun _ h => .inl h⟩
theorem JStR.of_step (t : StepR w b h w' h') : JStR w b h q v w' h' v := ⟨t.fr.mono (fun _ _ h => .inl h), t.own, t.rd, fun _ h => .inl h⟩
theorem JStR.trans (t : JStR w b h q v w' h' v') (u : JStR w' b h' q v' w2 h2 v2) : JStR w b h q v w2 h2 v2 :=
  ⟨t.fr.trans u.fr (fun i hi => hi.elim (fun h => (t.own i h).elim (fun h => .inl (.inl h)) .inr) (fun h => (t.jo i h).elim (fun h => .inl (.inr h)) .inr)),
   fun i hi => (u.own i hi).elim (t.own i) (fun h => .inr (Nat.le_trans t.fr.size h)),
   fun i hi => (u.rd i hi).elim (t.rd i) (fun h => .inr (Nat.le_trans t.fr.size h)),
   fun i hi => (u.jo i hi).elim (t.jo i) (fun h => .inr (Nat.le_trans t.fr.size h))⟩
theorem JStR.below (g : Below w.heap.size w w') : JStR w b h q v w' h v := ⟨⟨g.os, g.tape, g.output, g.size, fun i hi _ => g.block i hi⟩, fun _ h => .inl h, fun _ h => .inl h, fun _ h => .inl h⟩
theorem IsJr.lt (jr : IsJr w b h q f j v) {i : Nat} (hi : JO q v i) : i < w.heap.size := by
  rcases hi with rfl | hi
  · exact jr.blk.lt
  · exact (owns_own jr.row hi).1
theorem IsJr.keep (jr : IsJr w b h q f j v) (hk : ∀ i, JO q v i → w'.heap[i]? = w.heap[i]?) (hs : ∀ i, JO q v i → ¬ OwnR b h' i ∧ ¬ RdbR h' i) : IsJr w' b h' q f j v :=
  ⟨by unfold Holds; rw [hk q (.inl rfl)]; exact jr.blk, owns_keep jr.row (fun i hi => hk i (.inr hi)), jr.qv, hs, jr.few, jr.byt, jr.len⟩
theorem IsJr.step (jr : IsJr w b h q f j v) (t : StepR w b h w' h') : IsJr w' b h' q f j v :=
  jr.keep (fun i hi => t.fr.block i (jr.lt hi) (jr.sep i hi).1) (fun i hi => ⟨fun ho => (t.own i ho).elim (jr.sep i hi).1 (fun e => by have := jr.lt hi; omega), fun ho => (t.rd i ho).elim (jr.sep i hi).2 (fun e => by have := jr.lt hi; omega)⟩)
theorem IsJr.below (jr : IsJr w b h q f j v) (g : Below w.heap.size w w') : IsJr w' b h q f j v := jr.keep (fun i hi => g.block i (jr.lt hi)) jr.sep
theorem IsJr.c (jr : IsJr w b h q f j v) : w.cell? ⟨q, 0, none⟩ = some (dkP b) ∧ w.cell? ⟨q, 1, none⟩ = some (.int .i64 f) ∧ w.cell? ⟨q, 2, none⟩ = some v ∧ w.cell? ⟨q, 3, none⟩ = some (.bool j.broken) :=
  ⟨jr.blk.cell 0 (by simp [jrCells]), jr.blk.cell 1 (by simp [jrCells]), jr.blk.cell 2 (by simp [jrCells]), jr.blk.cell 3 (by simp [jrCells])⟩
theorem IsRf.below (d : IsRf w b A h) (g : Below w.heap.size w w') : IsRf w' b A h := d.keep (fun i hi => g.block i (d.lt hi))
theorem StepR.below' (g : Below w.heap.size w w') : StepR w b h w' h := ⟨⟨g.os, g.tape, g.output, g.size, fun i hi _ => g.block i hi⟩, fun _ h => .inl h, fun _ h => .inl h⟩
theorem sz_bool (w : World) : (sizeOf 4).run Tryz.prog w = .ok 1 w := by kernel_rfl
theorem sz_strs (w : World) : (sizeOf 46).run Tryz.prog w = .ok 1 w := by kernel_rfl
theorem IsJr.flag (d : IsRf w b A h) (jr : IsJr w b h q f j v) (t : Bool) {T : TypeId} (k : ∀ w', IsRf w' b A h → IsJr w' b h q f { j with broken := t } v → JStR w b h q v w' h v → K undef w') : oM Tryz.prog (.store 4 (.tmp 0) (.tmp 1)) T [ptr q 3, .bool t] K w := by
  refine arr_set sz_bool rfl rfl jr.blk (by simp [jrCells]) (fun W hg hh => ?_)
  have hF : Fr (fun i => i = q) w W := (Fr.refl _ _).by hg (fun i e => by cases e; exact .inl rfl)
  have hsq := jr.sep q (.inl rfl)
  refine k W (d.keep (fun i hi => hg.block i (d.lt hi) (fun e => by cases e; exact hi.elim hsq.1 hsq.2))) ⟨hh, owns_keep jr.row (fun i hi => hg.block i (owns_own jr.row hi).1 (fun e => by cases e; exact jr.qv hi)), jr.qv, jr.sep, jr.few, jr.byt, jr.len⟩ ⟨hF.mono (fun i _ e => .inr (.inl e)), fun _ h => .inl h, fun _ h => .inl h, fun _ h => .inl h⟩
theorem rsyncJ_ok (d : IsRf w b A h) (jr : IsJr w b h q f j v) (k : ∀ w' h', IsRf w' b (syncJ A f j).2.1 h' → IsJr w' b h' q f (syncJ A f j).2.2 v → JStR w b h q v w' h' v → K (.int .i64 (syncJ A f j).1) w') : callM Tryz.prog 15 #[jnP q] K w := by
  apply sh_15_ok
  unfold sh_15 jnP
  obtain ⟨c0, c1, c2, c3⟩ := jr.c
  cases hb : j.broken with
  | true =>
    rw [hb] at c3
    unfold syncJ at k
    rw [if_pos hb] at k
    repeat (any_goals (first
    | (with_reducible ((refine idCond ?_); refine yL ?_))
    | ((with_reducible refine idO ?_); (with_reducible refine oM_gen fun Kv hK=>?_); simp [go_sem, c3]; refine hK _ _ ?_; clear hK; clear Kv)))
    exact k w h d jr JStR.refl
  | false =>
    rw [hb] at c3
    unfold syncJ at k
    rw [if_neg (by rw [hb]; simp)] at k
    repeat (any_goals (first
    | (with_reducible ((refine idCond ?_); refine yM ?_))
    | ((with_reducible refine idO ?_); (with_reducible refine oM_gen fun Kv hK=>?_); simp [go_sem, c3]; refine hK _ _ ?_; clear hK; clear Kv)))
    unfold held_15_4
    refine ⟨Nx { w with drawn := w.drawn + 1 }, Below.refl _ _, rfl, ?_⟩
    have h3 : Nx w { w with drawn := w.drawn + 1 } := ((Below.refl _ _).drew)
    have d3 := d.below h3
    have jr3 := jr.below h3
    generalize ({ w with drawn := w.drawn + 1 } : World) = W3 at h3 d3 jr3 ⊢
    repeat (first | (with_reducible refine pureH_in ?_) | (with_reducible refine oH_nil ?_) | (with_reducible refine gdH_true rfl ?_) | (with_reducible refine gdH_false rfl ?_) | (refine oH_of ⟨_, rfl⟩ (fun W0 hW0 => by (refine oM_gen (fun Kv hK => ?_)); simp [go_sem, (jr3.below hW0).c]; (first | exact hK _ _ ⟨rfl, rfl⟩ | exact ⟨by omega, hK _ _ ⟨rfl, rfl⟩⟩)) ?_))
    refine ⟨Nx, fun w4 h4 => ?_⟩
    have d4 := d3.below h4
    have jr4 := jr3.below h4
    refine rSync_ok d4 f (fun w5 h5 d5 t5 => ?_)
    have jr5 := jr4.step t5
    have e1 : (decide ((syncA A f).1 ≠ 0)) = !decide ((syncA A f).1 = 0) := by simp
    repeat (any_goals ((with_reducible refine idO ?_); (with_reducible refine oM_gen fun Kv hK=>?_); simp [go_sem]; refine hK _ _ ?_; clear hK; clear Kv))
    rw [← e1]
    refine IsJr.flag d5 jr5 _ (fun w6 d6 jr6 t6 => ?_)
    exact k w6 h5 d6 jr6 ((JStR.below (h3.trans (h4.mono h3.size))).trans ((JStR.of_step t5).trans t6))
end
end Go.Proofs
namespace Go.Proofs
open Go Go.Sh Go.RowKit CodeSpec JnSpec DkSpec
set_option linter.unusedSimpArgs false
set_option linter.unusedVariables false
set_option maxRecDepth 10000
attribute [local go_sem] oM_indexAddr
section
variable {w W W' : World} {K : Value → World → Prop}
theorem row_below {n : Nat} {xs : List Value} {B : Nat} {T : TypeId} {v : Value} (r : W.ownsRow B T 1 v n xs) (hb : Below W.heap.size W W') : W'.ownsRow B T 1 v n xs := owns_keep r (fun i hi => hb.block i (owns_own r hi).1)
theorem app_rows {v u : Value} {xs ys : List Bs} {B C : Nat} {T : TypeId} (hx : w.ownsRow B 9 1 v xs.length (xs.map Cd.strV)) (hy : w.ownsRow C 9 1 u ys.length (ys.map Cd.strV)) (hl : xs.length + ys.length < 2 ^ 40)
    (k : ∀ v' w', w'.ownsRow 0 9 1 v' (xs ++ ys).length ((xs ++ ys).map Cd.strV) → w.grownBy w' v.ownBlock → (∀ i, v'.ownBlock = some i → v.ownBlock = some i ∨ w.heap.size ≤ i) → K v' w') :
    oM Tryz.prog (.call { callee := .builtin .append, args := #[.tmp 0, .tmp 1], argTypes := #[46, 46] }) T [v, u] K w := by
  have hlen : (ys.map Cd.strV).length = ys.length * 1 := by simp
  have h1 : ∀ u ∈ ys.map Cd.strV, u.oneCell' = true := by
    intro u hu
    obtain ⟨s, _, rfl⟩ := List.mem_map.1 hu
    rfl
  have k' : ∀ v' w', w'.ownsRow 0 9 1 v' (xs.length + ys.length) (xs.map Cd.strV ++ ys.map Cd.strV) → w.grownBy w' v.ownBlock → (∀ i, v'.ownBlock = some i → v.ownBlock = some i ∨ w.heap.size ≤ i) → K v' w' := fun v' w' ho => by
    refine k v' w' ?_
    rw [List.length_append, List.map_append]; exact ho
  rcases hy.2 with ⟨rfl, h0⟩ | ⟨g, cap, cur, rfl, _⟩
  · have e0 : ys = [] := List.length_eq_zero_iff.1 h0
    subst e0
    exact append_at 46 T 9 Tryz.t9 (.string ⟨#[]⟩) 1 16 Tryz.underlying46 (by kernel_rfl) (by kernel_rfl) (by kernel_rfl) (by kernel_rfl) rfl (by omega) (owns_zero hx) [] rfl (fun _ => ⟨rfl, rfl⟩) (fun a ha => by cases ha) (by simp) (by unfold maxLen; simp only [List.length_nil] at *; omega) (by simp only [List.length_nil] at *; omega) k'
  · refine append_at 46 T 9 Tryz.t9 (.string ⟨#[]⟩) 1 16 Tryz.underlying46 (by kernel_rfl) (by kernel_rfl) (by kernel_rfl) (by kernel_rfl) rfl (by omega) (owns_zero hx) (ys.map Cd.strV) hlen (fun e => by cases e) (fun a ha i x hu => ?_) h1 (by unfold maxLen; omega) (by omega) k'
    cases ha
    have hlt := (List.getElem?_eq_some_iff.1 hu).1
    rw [List.length_map] at hlt
    obtain ⟨g', cap', cur', e, _, _, _, _, _, hcell⟩ := owns_cells hy (by omega)
    cases e
    rw [Cd.addr_add, Nat.zero_add]
    exact hcell i x hu
def Zero (B : Nat) (w : World) (v : Value) : Prop := ∃ g, v = .slice (some ⟨g, 0, none⟩) 0 0 ∧ w.ownsRow B 9 1 v 0 []
theorem zero_rows {v u : Value} {ys : List Bs} {B C : Nat} {T : TypeId} (hx : Zero B w v) (hB : B ≤ w.heap.size) (hy : w.ownsRow C 9 1 u ys.length (ys.map Cd.strV)) (hl : ys.length < 2 ^ 40)
    (k : ∀ v' w', w'.ownsRow B 9 1 v' ys.length (ys.map Cd.strV) → Below w.heap.size w w' → K v' w') :
    oM Tryz.prog (.call { callee := .builtin .append, args := #[.tmp 0, .tmp 1], argTypes := #[46, 46] }) T [v, u] K w := by
  obtain ⟨g, rfl, hx⟩ := hx
  have h1 : ∀ u ∈ ys.map Cd.strV, u.oneCell' = true := by
    intro u hu
    obtain ⟨s, _, rfl⟩ := List.mem_map.1 hu
    rfl
  rcases hy.2 with ⟨rfl, h0⟩ | ⟨g, cap, cur, rfl, _⟩
  · have e0 : ys = [] := List.length_eq_zero_iff.1 h0
    subst e0
    exact append_zero 46 T 9 Tryz.t9 (.string ⟨#[]⟩) 1 16 Tryz.underlying46 (by kernel_rfl) (by kernel_rfl) (by kernel_rfl) (by kernel_rfl) rfl (by omega) hB hx [] rfl (fun _ => ⟨rfl, rfl⟩) (fun a ha => by cases ha) (by simp) (by unfold maxLen; simp only [List.length_nil] at *; omega) (by simp only [List.length_nil] at *; omega) (fun v' w' ho hb _ => k v' w' ho hb)
  · refine append_zero 46 T 9 Tryz.t9 (.string ⟨#[]⟩) 1 16 Tryz.underlying46 (by kernel_rfl) (by kernel_rfl) (by kernel_rfl) (by kernel_rfl) rfl (by omega) hB hx (ys.map Cd.strV) (by simp) (fun e => by cases e) (fun a ha i x hu => ?_) h1 (by unfold maxLen; omega) (by omega) (fun v' w' ho hb _ => k v' w' ho hb)
    cases ha
    have hlt := (List.getElem?_eq_some_iff.1 hu).1
    rw [List.length_map] at hlt
    obtain ⟨g', cap', cur', e, _, _, _, _, _, hcell⟩ := owns_cells hy (by omega)
    cases e
    rw [Cd.addr_add, Nat.zero_add]
    exact hcell i x hu
theorem one_row (w : World) (t : Bs) : Below w.heap.size w (w.alloc (.cells #[.string ⟨t.toArray⟩] 9)) ∧ (w.alloc (.cells #[.string ⟨t.toArray⟩] 9)).ownsRow w.heap.size 9 1 (.slice (some ⟨w.heap.size, 0, none⟩) 1 1) 1 [Cd.strV t] :=
  ⟨(Below.refl _ _).alloc (Nat.le_refl _) _, rfl, .inr ⟨w.heap.size, 1, #[.string ⟨t.toArray⟩], rfl, Nat.le_refl _, heap_alloc_new w _, Nat.le_refl _, by unfold maxLen; omega, rfl, rfl⟩⟩
theorem zero_alloc (w : World) : Below w.heap.size w (w.alloc (.cells #[] 9)) ∧ Zero w.heap.size (w.alloc (.cells #[] 9)) (.slice (some ⟨w.heap.size, 0, none⟩) 0 0) :=
  ⟨(Below.refl _ _).alloc (Nat.le_refl _) _, _, rfl, rfl, .inr ⟨w.heap.size, 0, #[], rfl, Nat.le_refl _, heap_alloc_new w _, Nat.le_refl _, by unfold maxLen; omega, rfl, rfl⟩⟩
end
section
variable {w w' w2 : World} {b q : Nat} {A A' : Ab} {h h' h2 : Rh} {f : Int} {j j' : Jn} {v v' v2 : Value} {K : Value → World → Prop}
theorem rappend_ok (d : IsRf w b A h) (jr : IsJr w b h q f j v) (hf : 0 ≤ f ∧ f ≤ 15) (t : List UInt8) (ht : t.length ≤ 16777216) (k : ∀ w' h' v', IsRf w' b (appendJ A f j t).2.1 h' → IsJr w' b h' q f (appendJ A f j t).2.2 v' → JStR w b h q v w' h' v' → K (.int .i64 (appendJ A f j t).1) w') : callM Tryz.prog 13 #[jnP q, .string ⟨t.toArray⟩] K w := by
  apply sh_13_ok
  unfold sh_13 jnP
  obtain ⟨c0, c1, c2, c3⟩ := jr.c
  have hl := jr.len
  have hfl := form_len ht
  have hfp := form_pos t
  cases hb : j.broken with
  | true =>
    rw [hb] at c3
    unfold appendJ at k
    rw [if_pos hb] at k
    repeat (any_goals (first
    | (with_reducible ((refine idCond ?_); refine yL ?_))
    | ((with_reducible refine idO ?_); (with_reducible refine oM_gen fun Kv hK=>?_); simp [go_sem, c3]; refine hK _ _ ?_; clear hK; clear Kv)))
    exact k w h v d jr JStR.refl
  | false =>
    rw [hb] at c3
    unfold appendJ at k
    rw [if_neg (by rw [hb]; simp)] at k
    by_cases h1 : 20000 < t.length
    · rw [if_pos h1] at k
      repeat (any_goals (first
      | (with_reducible ((refine idCond ?_); first|refine yM ?_|refine yN ?_))
      | ((with_reducible refine idO ?_); (with_reducible refine oM_gen fun Kv hK=>?_); simp [go_sem, c3]; refine hK _ _ ?_; clear hK; clear Kv)))
      exact k w h v d jr JStR.refl
    rw [if_neg h1] at k
    repeat (any_goals (first
    | (with_reducible ((refine idCond ?_); first|refine yM ?_|refine yO ?_))
    | ((with_reducible refine idO ?_); (with_reducible refine oM_gen fun Kv hK=>?_); simp [go_sem, c2, c3]; refine hK _ _ ?_; clear hK; clear Kv)))
    have hbl : (formL j.recs).length ≤ 16777216 := by rw [← jr.byt]; exact hl.2
    refine rForms_ok jr.row jr.few hbl (by omega) (fun w1 b1 => ?_)
    repeat (any_goals ((with_reducible refine idO ?_); (with_reducible refine oM_gen fun Kv hK=>?_); simp [go_sem]; refine hK _ _ ?_; clear hK; clear Kv))
    refine rForm_ok t ht (fun w2 b2 => ?_)
    have b12 := b1.trans (b2.mono b1.size)
    have d2 := d.below b12
    have jr2 := jr.below b12
    rw [← jr.byt]
    clear d jr b1 b2 c0 c1 c2 c3
    by_cases h2 : 1048576 < j.bytes + (form t).length
    · rw [if_pos h2] at k
      repeat (any_goals (first
      | (with_reducible ((refine idCond ?_); refine yN ?_))
      | ((with_reducible refine idO ?_); (with_reducible refine oM_gen fun Kv hK=>?_); simp [go_sem]; (try simp (disch := omega) only [wrapI64, wrapU8, wrapU32, wrapU64]); refine hK _ _ ?_; clear hK; clear Kv)))
      exact k w2 h v d2 jr2 (JStR.below b12)
    rw [if_neg h2] at k
    repeat (any_goals (first
    | (with_reducible ((refine idCond ?_); refine yO ?_))
    | ((with_reducible refine idO ?_); (with_reducible refine oM_gen fun Kv hK=>?_); simp [go_sem]; (try simp (disch := omega) only [wrapI64, wrapU8, wrapU32, wrapU64]); refine hK _ _ ?_; clear hK; clear Kv)))
    unfold held_13_15
    refine ⟨Nx { w2 with drawn := w2.drawn + 1 }, Below.refl _ _, rfl, ?_⟩
    have h3 : Nx w2 { w2 with drawn := w2.drawn + 1 } := ((Below.refl _ _).drew)
    have d3 := d2.below h3
    have jr3 := jr2.below h3
    have b13 := b12.trans (h3.mono b12.size)
    clear d2 jr2 b12
    generalize ({ w2 with drawn := w2.drawn + 1 } : World) = w3 at h3 d3 jr3 b13 ⊢
    repeat (first | (with_reducible refine pureH_in ?_) | (with_reducible refine oH_nil ?_) | (with_reducible refine gdH_true rfl ?_) | (with_reducible refine gdH_false rfl ?_) | (refine oH_of ⟨_, rfl⟩ (fun W0 hW0 => by (refine oM_gen (fun Kv hK => ?_)); simp [go_sem, (jr3.below hW0).c]; (first | exact hK _ _ ⟨rfl, rfl⟩ | exact ⟨by omega, hK _ _ ⟨rfl, rfl⟩⟩)) ?_))
    refine ⟨Nx, ?_⟩
    refine monoE (x := .string ⟨(form t).toArray⟩) (fun w4 h4 => rForm_ok t ht (fun w5 b5 => ⟨h4.trans (b5.mono h4.size), b5, rfl⟩)) ?_
    intro w4 h4 v36 e36
    subst e36
    have d4 := d3.below h4
    have jr4 := jr3.below h4
    have b14 := b13.trans (h4.mono b13.size)
    clear d3 jr3 b13
    refine rWrite_ok d4 f j.bytes (form t) (by omega) (by omega) (fun w5 h5 d5 t5 => ?_)
    have jr5 := jr4.step t5
    have j5 : JStR w b h q v w5 h5 v := (JStR.below b14).trans (JStR.of_step t5)
    clear d4 jr4 b14 t5
    by_cases h3 : (writeA A f j.bytes (form t)).1 = 0
    · rw [if_neg (by rw [h3]; simp)] at k
      obtain ⟨e0, e1, e2, e3⟩ := jr5.c
      repeat (any_goals (first
      | (with_reducible ((refine idCond ?_); refine yR ?_))
      | ((with_reducible refine idO ?_); (with_reducible refine oM_gen fun Kv hK=>?_); simp [go_sem]; refine hK _ _ ?_; clear hK; clear Kv)))
      obtain ⟨bz, hz⟩ := zero_alloc w5
      have d6 := d5.below bz
      have jr6 := jr5.below bz
      have j6 := j5.trans (JStR.below bz)
      generalize w5.alloc (.cells #[] 9) = w6 at *
      obtain ⟨q0, q1, q2, q3⟩ := jr6.c
      repeat (any_goals ((with_reducible refine idO ?_); (with_reducible refine oM_gen fun Kv hK=>?_); simp [go_sem, q2]; refine hK _ _ ?_; clear hK; clear Kv))
      have hzz := bz.size
      refine zero_rows (ys := j.recs) hz hzz jr6.row (by omega) (fun v7 w7 ho7 b7 => ?_)
      have d7 := d6.below b7
      have jr7 := jr6.below b7
      have j7 := j6.trans (JStR.below b7)
      repeat (any_goals ((with_reducible refine idO ?_); (with_reducible refine oM_gen fun Kv hK=>?_); simp [go_sem]; refine hK _ _ ?_; clear hK; clear Kv))
      obtain ⟨bo, oo⟩ := one_row w7 t
      have d8 := d7.below bo
      have jr8 := jr7.below bo
      have j8 := j7.trans (JStR.below bo)
      have ho8 := row_below ho7 bo
      generalize w7.alloc (.cells #[.string ⟨t.toArray⟩] 9) = w8 at *
      have hz7 := b7.size
      have hz8 := bo.size
      refine app_rows (xs := j.recs) (ys := [t]) ho8 oo (by simp; omega) (fun v9 w9 ho9 hg9 hv9 => ?_)
      have hfr : ∀ i, v7.ownBlock = some i → w5.heap.size ≤ i := fun i hi => (owns_own ho8 hi).2.1
      have h5lt : ∀ i, (OwnR b h5 i ∨ RdbR h5 i) ∨ JO q v i → i < w5.heap.size := fun i hi => hi.elim (fun hi => d5.lt hi) (fun hi => jr5.lt hi)
      have d9 : IsRf w9 b (writeA A f j.bytes (form t)).2 h5 := d8.keep (fun i hi => hg9.block i (d8.lt hi) (fun e => by have := hfr i e.symm; have := h5lt i (.inl hi); omega))
      have jr9 : IsJr w9 b h5 q f j v := jr8.keep (fun i hi => hg9.block i (jr8.lt hi) (fun e => by have := hfr i e.symm; have := h5lt i (.inr hi); omega)) jr8.sep
      have hF9 : Fr (fun i => w5.heap.size ≤ i) w8 w9 := (Fr.refl _ _).by hg9 (fun i e => .inl (hfr i e))
      have j9 : JStR w b h q v w9 h5 v := ⟨j8.fr.trans hF9 (fun i hi => .inr (by have := j5.fr.size; omega)), j8.own, j8.rd, j8.jo⟩
      have hv9' : ∀ i, v9.ownBlock = some i → w5.heap.size ≤ i := fun i hi => (hv9 i hi).elim (hfr i) (fun e => by omega)
      repeat (any_goals ((with_reducible refine idO ?_); (with_reducible refine oM_gen fun Kv hK=>?_); simp [go_sem]; refine hK _ _ ?_; clear hK; clear Kv))
      have hz5 := j5.fr.size
      obtain ⟨va9, vc9, hve9⟩ := owns_len ho9
      have h1v : v9.oneCell' = true := by rw [hve9]; rfl
      have h1c : v9.cells = #[v9] := by rw [hve9]; rfl
      refine arr_set (i := 2) sz_strs h1c h1v jr9.blk (by simp [jrCells]) (fun W hg hh => ?_)
      have hqlt := h5lt q (.inr (.inl rfl))
      have hsq := jr9.sep q (.inl rfl)
      have hset : (jrCells b f v j.broken).set 2 v9 = jrCells b f v9 false := by rw [hb]; rfl
      rw [hset] at hh
      refine k W h5 v9 (d9.keep (fun i hi => hg.block i (d9.lt hi) (fun e => by cases e; exact hi.elim hsq.1 hsq.2))) ⟨hh, ?_, fun e => by have := hv9' q e; omega, ?_, ?_, ?_, ?_⟩ ⟨j9.fr.trans ((Fr.refl (fun i => i = q) _).by hg (fun i e => by cases e; exact .inl rfl)) (fun i e => .inl (by subst e; exact .inr (.inl rfl))), j9.own, j9.rd, ?_⟩
      · exact owns_keep ho9 (fun i hi => hg.block i (owns_own ho9 hi).1 (fun e => by cases e; have := hv9' q hi; omega))
      · rintro i (rfl | hi)
        · exact hsq
        · have := hv9' i hi
          exact ⟨fun ho => by have := h5lt i (.inl (.inl ho)); omega, fun ho => by have := h5lt i (.inl (.inr ho)); omega⟩
      · intro x hx
        rcases List.mem_append.1 hx with hx | hx
        · exact jr9.few x hx
        · simp only [List.mem_singleton] at hx
          rw [hx]; omega
      · dsimp only
        rw [formL_append, List.length_append, jr9.byt]; simp [formL]
      · dsimp only
        rw [List.length_append, List.length_singleton]; omega
      · rintro i (rfl | hi)
        · exact .inl (.inl rfl)
        · have := hv9' i hi
          exact .inr (by omega)
    · rw [if_pos h3] at k
      repeat (any_goals (first
      | (with_reducible ((refine idCond ?_); refine yQ ?_))
      | ((with_reducible refine idO ?_); (with_reducible refine oM_gen fun Kv hK=>?_); simp [go_sem]; refine hK _ _ ?_; clear hK; clear Kv)))
      refine IsJr.flag d5 jr5 true (fun w6 d6 jr6 t6 => ?_)
      skip
      exact k w6 h5 v d6 jr6 (j5.trans t6)
end
end Go.Proofs
namespace Go.Proofs
open Go Go.Sh Go.RowKit CodeSpec JnSpec DkSpec
set_option linter.unusedSimpArgs false
set_option linter.unusedVariables false
set_option maxRecDepth 10000
section
variable {w w' w2 : World} {b q : Nat} {A A' : Ab} {h h' h2 : Rh} {f : Int} {j j' : Jn} {v v' v2 : Value} {K : Value → World → Prop}
def OpenedR (w : World) (b : Nat) (h : Rh) (w0 : World) (f : Int) (r : Value) : Option Jn → Prop
  | none => r = .pointer none
  | some j => ∃ q v, r = jnP q ∧ IsJr w b h q f j v ∧ ∀ i, JO q v i → w0.heap.size ≤ i
theorem build_jr {T : TypeId} {ad : Option Addr} {m c : Nat} (k : K (.agg (jrCells b f (.slice ad m c) false).toArray) w) : oM Tryz.prog (.build 49 #[(0, .tmp 0), (1, .tmp 1), (2, .tmp 2)]) T [dkP b, .int .i64 f, .slice ad m c] K w := by
  have e : (Instr.build 49 #[(0, dkP b), (1, .int .i64 f), (2, .slice ad m c)]).run Tryz.prog w = .ok (.agg (jrCells b f (.slice ad m c) false).toArray) w := by kernel_rfl
  rw [oM_build3, e]
  exact k
theorem ropenJ_ok (d : IsRf w b A h) (f : Int) (k : ∀ w' h' r, IsRf w' b (openJ A f).2.2 h' → StepR w b h w' h' → OpenedR w' b h' w f r (openJ A f).1 → K (.tuple #[r, .int .i64 (openJ A f).2.1]) w') : callM Tryz.prog 9 #[dkP b, .int .i64 f] K w := by
  apply sh_9_ok
  unfold sh_9
  unfold openJ at k
  by_cases hf : f < 0 ∨ 15 < f
  · rw [if_pos hf] at k
    by_cases h0 : f < 0
    · repeat (any_goals (first
      | (with_reducible first|((refine idGd ?_); ((refine idGdD ?_); refine zJ ?_))|((refine idPick ?_); refine yD ?_)|((refine idCond ?_); refine yL ?_))
      | ((with_reducible refine idO ?_); (with_reducible refine oM_gen fun Kv hK=>?_); simp [go_sem]; refine hK _ _ ?_; clear hK; clear Kv)))
      exact k w h _ d (StepR.refl _ _ _) rfl
    · have h1 : 15 < f := hf.resolve_left h0
      repeat (any_goals (first
      | (with_reducible first|refine pureM_in ?_|((refine idGd ?_); ((refine idGdD ?_); refine zI ?_))|((refine idPick ?_); refine yE ?_)|((refine idCond ?_); refine yN ?_))
      | ((with_reducible refine idO ?_); (with_reducible refine oM_gen fun Kv hK=>?_); simp [go_sem]; refine hK _ _ ?_; clear hK; clear Kv)))
      exact k w h _ d (StepR.refl _ _ _) rfl
  rw [if_neg hf] at k
  have h0 : ¬ f < 0 := fun e => hf (.inl e)
  have h1 : ¬ 15 < f := fun e => hf (.inr e)
  repeat (any_goals (first
  | (with_reducible first|refine pureM_in ?_|((refine idGd ?_); ((refine idGdD ?_); refine zI ?_))|((refine idPick ?_); refine yE ?_)|((refine idCond ?_); refine yO ?_))
  | ((with_reducible refine idO ?_); (with_reducible refine oM_gen fun Kv hK=>?_); simp [go_sem]; refine hK _ _ ?_; clear hK; clear Kv)))
  refine rSync_ok d f (fun w1 h1' d1 t1 => ?_)
  by_cases he : (syncA A f).1 = 0
  · rw [if_neg (by simp [he])] at k
    repeat (any_goals (first
    | (with_reducible ((refine idCond ?_); refine yR ?_))
    | ((with_reducible refine idO ?_); (with_reducible refine oM_gen fun Kv hK=>?_); simp [go_sem]; refine hK _ _ ?_; clear hK; clear Kv)))
    refine rsize_ok d1 f (fun w2 f2 => ?_)
    have d2 := d1.fresh f2
    have t2 := t1.trans (StepR.fresh f2)
    have hsz := (d1.wf.sz f).1
    refine rread_ok d2 f 0 _ (by omega) (fun w3 f3 => ?_)
    have d3 := d2.fresh f3
    have t3 := t2.trans (StepR.fresh f3)
    clear d1 d2 t1 t2 f2 f3
    have hrl := readA_len (syncA A f).2 f 0 ((((syncA A f).2.F f).1.length : Nat) : Int)
    generalize (syncA A f).2 = B at *
    unfold openB at k
    generalize readA B f 0 (((B.F f).1.length : Nat) : Int) = r at *
    obtain ⟨x, e⟩ := r
    dsimp only at k hrl ⊢
    by_cases h2 : e = 0
    · rw [if_neg (by simp [h2])] at k
      repeat (any_goals (first
      | (with_reducible ((refine idCond ?_); refine yR ?_))
      | ((with_reducible refine idO ?_); (with_reducible refine oM_gen fun Kv hK=>?_); simp [go_sem]; refine hK _ _ ?_; clear hK; clear Kv)))
      refine rRecords_ok x (by omega) (fun v w4 ho4 b4 => ?_)
      have hrs := readJ_spec x
      have hrl1 := formL_len (readJ x).1
      rw [← hrs.2.1] at hrl1
      have hrl2 : (readJ x).2 ≤ x.length := by
        have := congrArg List.length hrs.2.2.1
        rw [List.length_append, ← hrs.2.1] at this
        omega
      have d4 := d3.below b4
      have t4 := t3.trans (StepR.below' b4)
      have hz3 := t3.fr.size
      have hvo : ∀ i, v.ownBlock = some i → w3.heap.size ≤ i := fun i hi => (owns_own ho4 hi).2.1
      have hlt3 : ∀ i, OwnR b h1' i ∨ RdbR h1' i → i < w3.heap.size := fun i hi => d3.lt hi
      obtain ⟨va, vc, hve⟩ := owns_len ho4
      rw [hve] at ho4 hvo ⊢
      refine build_jr ?_
      refine arr_box (cs := jrCells b f (.slice va (readJ x).1.length vc) false) rfl (fun q w5 b5 hq hh5 => ?_)
      have d5 := d4.below b5
      have t5 := t4.trans (StepR.below' b5)
      have hz4 := b4.size
      have hz5 := b5.size
      have jr5 : IsJr w5 b h1' q f ⟨(readJ x).1, (readJ x).2, false⟩ (.slice va (readJ x).1.length vc) := by
        refine ⟨hh5, owns_zero (owns_keep ho4 (fun i hi => b5.block i (owns_own ho4 hi).1)), fun e => by have := (owns_own ho4 e).1; omega, ?_, hrs.1, hrs.2.1, ⟨hrl1, by dsimp only; omega⟩⟩
        rintro i (rfl | hi)
        · exact ⟨fun ho => by have := hlt3 i (.inl ho); omega, fun ho => by have := hlt3 i (.inr ho); omega⟩
        · have := hvo i hi
          exact ⟨fun ho => by have := hlt3 i (.inl ho); omega, fun ho => by have := hlt3 i (.inr ho); omega⟩
      have hjo : ∀ i, JO q (.slice va (readJ x).1.length vc) i → w.heap.size ≤ i := by
        rintro i (rfl | hi)
        · omega
        · have := hvo i hi; omega
      obtain ⟨c0, c1, c2, c3⟩ := jr5.c
      repeat (any_goals ((with_reducible refine idO ?_); (with_reducible refine oM_gen fun Kv hK=>?_); simp [go_sem, c2]; refine hK _ _ ?_; clear hK; clear Kv))
      refine rForms_ok (l := (readJ x).1) jr5.row hrs.1 (by rw [← hrs.2.1]; omega) (by omega) (fun w6 b6 => ?_)
      have d6 := d5.below b6
      have jr6 := jr5.below b6
      have t6 := t5.trans (StepR.below' b6)
      repeat (any_goals ((with_reducible refine idO ?_); (with_reducible refine oM_gen fun Kv hK=>?_); simp [go_sem]; refine hK _ _ ?_; clear hK; clear Kv))
      rw [← hrs.2.1]
      by_cases h3 : (readJ x).2 < x.length
      · rw [if_pos h3] at k
        by_cases h4 : (truncA B f (readJ x).2).1 = 0
        · rw [if_neg (by simp [h4])] at k
          refine ⟨fun vs W => ∃ h', vs = [.int .i64 0] ∧ IsRf W b (truncA B f (readJ x).2).2 h' ∧ StepR w6 b h1' W h', ?_, ?_⟩
          · repeat (any_goals (first
            | (with_reducible ((refine idCond ?_); refine yN ?_))
            | ((with_reducible refine idO ?_); (with_reducible refine oM_gen fun Kv hK=>?_); simp [go_sem]; refine hK _ _ ?_; clear hK; clear Kv)))
            refine rTrunc_ok d6 f (readJ x).2 (fun w7 h7 d7 t7 => ?_)
            rw [h4]
            exact ⟨h7, rfl, d7, t7⟩
          · rintro _ _ w7 ⟨h7, rfl, d7, t7⟩
            repeat (any_goals (first
            | (with_reducible ((refine idCond ?_); refine yM ?_))
            | ((with_reducible refine idO ?_); (with_reducible refine oM_gen fun Kv hK=>?_); simp [go_sem]; refine hK _ _ ?_; clear hK; clear Kv)))
            exact k w7 h7 _ d7 (t6.trans t7) ⟨q, _, rfl, jr6.step t7, hjo⟩
        · rw [if_pos h4] at k
          refine ⟨fun vs W => ∃ h', vs = [.int .i64 (truncA B f (readJ x).2).1] ∧ IsRf W b (truncA B f (readJ x).2).2 h' ∧ StepR w6 b h1' W h', ?_, ?_⟩
          · repeat (any_goals (first
            | (with_reducible ((refine idCond ?_); refine yN ?_))
            | ((with_reducible refine idO ?_); (with_reducible refine oM_gen fun Kv hK=>?_); simp [go_sem]; refine hK _ _ ?_; clear hK; clear Kv)))
            refine rTrunc_ok d6 f (readJ x).2 (fun w7 h7 d7 t7 => ?_)
            exact ⟨h7, rfl, d7, t7⟩
          · rintro _ _ w7 ⟨h7, rfl, d7, t7⟩
            repeat (any_goals (first
            | (with_reducible ((refine idCond ?_); refine yQ ?_))
            | ((with_reducible refine idO ?_); (with_reducible refine oM_gen fun Kv hK=>?_); simp [go_sem]; refine hK _ _ ?_; clear hK; clear Kv)))
            exact k w7 h7 _ d7 (t6.trans t7) rfl
      · rw [if_neg h3] at k
        refine ⟨fun vs W => vs = [.int .i64 0] ∧ w6 = W, ?_, ?_⟩
        · repeat (any_goals (first
          | (with_reducible ((refine idCond ?_); refine yO ?_))
          | ((with_reducible refine idO ?_); (with_reducible refine oM_gen fun Kv hK=>?_); simp [go_sem]; refine hK _ _ ?_; clear hK; clear Kv)))
          exact ⟨by rw [h2], rfl⟩
        · rintro _ _ _ ⟨rfl, rfl⟩
          repeat (any_goals (first
          | (with_reducible ((refine idCond ?_); refine yM ?_))
          | ((with_reducible refine idO ?_); (with_reducible refine oM_gen fun Kv hK=>?_); simp [go_sem]; refine hK _ _ ?_; clear hK; clear Kv)))
          exact k w6 h1' _ d6 t6 ⟨q, _, rfl, jr6, hjo⟩
    · rw [if_pos h2] at k
      repeat (any_goals (first
      | (with_reducible ((refine idCond ?_); refine yQ ?_))
      | ((with_reducible refine idO ?_); (with_reducible refine oM_gen fun Kv hK=>?_); simp [go_sem]; refine hK _ _ ?_; clear hK; clear Kv)))
      exact k w3 h1' _ d3 t3 rfl
  · rw [if_pos he] at k
    repeat (any_goals (first
    | (with_reducible ((refine idCond ?_); refine yQ ?_))
    | ((with_reducible refine idO ?_); (with_reducible refine oM_gen fun Kv hK=>?_); simp [go_sem]; refine hK _ _ ?_; clear hK; clear Kv)))
    exact k w1 h1' _ d1 t1 rfl
end
end Go.Proofs
set_option linter.unusedVariables false
set_option maxRecDepth 100000
namespace Go.Proofs
open Go Go.Sh
def pre_3_81 (v11_22 : Value) (v21_4 : Value) (v22_5 : Value) (M_81 : List Value → World → Prop) (w : World) : Prop :=
 oM Tryz.prog (.fieldAddr 38 (.tmp 0) 0) 0 [v11_22] (fun v110_83 w =>
 oM Tryz.prog (.load 3 (.tmp 0)) 3 [v110_83] (fun v111_84 w =>
 oM Tryz.prog (.binOp .eql 3 (.tmp 0) (.const (.int .i64 4)) 3) 4 [v111_84] (fun v112_85 w =>
 condM v112_85
 (oM Tryz.prog (.fieldAddr 38 (.tmp 0) 3) 0 [v11_22] (fun v114_86 w =>
 oM Tryz.prog (.load 36 (.tmp 0)) 36 [v114_86] (fun v115_87 w =>
 callM Tryz.prog 20 #[v21_4, v115_87] (fun v116_88 w =>
 oM Tryz.prog (.fieldAddr 38 (.tmp 0) 3) 0 [v11_22] (fun v118_89 w =>
 oM Tryz.prog (.load 36 (.tmp 0)) 36 [v118_89] (fun v119_90 w =>
 callM Tryz.prog 21 #[v22_5, v119_90] (fun v120_91 w =>
 M_81 [] w) w) w) w) w) w) w)
 (M_81 [] w)) w) w) w
def post_3_81 (M_33 : List Value → World → Prop) (l_15 : List Value) (l_38 : List Value) (l_78 : List Value) (v21_4 : Value) (v22_5 : Value) (v84_59 : Value) (v94_66 : Value) (l_82 : List Value) (w : World) : Prop :=
 callM Tryz.prog 22 #[v21_4] (fun v122_92 w =>
 callM Tryz.prog 23 #[v22_5] (fun v124_93 w =>
 callM Tryz.prog 8 #[v21_4, (.int .i64 3)] (fun v127_94 w =>
 oM Tryz.prog (.extract (.tmp 0) 0) 29 [v127_94] (fun v128_95 w =>
 oM Tryz.prog (.extract (.tmp 0) 1) 30 [v127_94] (fun v129_96 w =>
 callM Tryz.prog 9 #[v22_5, (.int .i64 3)] (fun v132_97 w =>
 oM Tryz.prog (.extract (.tmp 0) 0) 33 [v132_97] (fun v133_98 w =>
 oM Tryz.prog (.extract (.tmp 0) 1) 30 [v132_97] (fun v134_99 w =>
 M_33 [(l_38.getD 0 undef), (l_15.getD 0 undef), v129_96, v134_99, v84_59, v94_66, (l_78.getD 0 undef), v128_95, v133_98] w) w) w) w) w) w) w) w) w
def post_3_77 (M_33 : List Value → World → Prop) (l_15 : List Value) (l_38 : List Value) (v11_22 : Value) (v21_4 : Value) (v22_5 : Value) (v84_59 : Value) (v94_66 : Value) (l_78 : List Value) (w : World) : Prop :=
 condM (l_78.getD 0 undef)
 (joinM (fun M_81 => (pre_3_81 v11_22 v21_4 v22_5 M_81 w))
 (fun l_82 u_l_82 w => (post_3_81 M_33 l_15 l_38 l_78 v21_4 v22_5 v84_59 v94_66 l_82 w)))
 (M_33 [(l_38.getD 0 undef), (l_15.getD 0 undef), (l_15.getD 2 undef), (l_15.getD 3 undef), v84_59, v94_66, (l_78.getD 0 undef), (l_15.getD 7 undef), (l_15.getD 8 undef)] w)
def post_3_37 (K : Value → World → Prop) (M_18 : List Value → World → Prop) (M_33 : List Value → World → Prop) (l_15 : List Value) (v11_22 : Value) (v21_4 : Value) (v22_5 : Value) (v53_36 : Value) (l_38 : List Value) (w : World) : Prop :=
 condM (l_38.getD 0 undef)
 (oM Tryz.prog (.binOp .eql 29 (.tmp 0) (.const (.pointer none)) 29) 4 [(l_15.getD 7 undef)] (fun v58_41 w =>
 oM Tryz.prog (.binOp .eql 33 (.tmp 0) (.const (.pointer none)) 33) 4 [(l_15.getD 8 undef)] (fun v60_42 w =>
 oM Tryz.prog (.binOp .neq 4 (.tmp 0) (.tmp 1) 4) 4 [v58_41, v60_42] (fun v61_43 w =>
 condM v61_43
 (K (.bool false) w)
 (oM Tryz.prog (.binOp .eql 29 (.tmp 0) (.const (.pointer none)) 29) 4 [(l_15.getD 7 undef)] (fun v63_44 w =>
 gdM (gd v63_44 false) (pureM (l_15.getD 8 undef)) (fun v65_45 w =>
 gdM (gd v63_44 false) (oM Tryz.prog (.binOp .eql 33 (.tmp 0) (.const (.pointer none)) 33) 4 [v65_45]) (fun v66_46 w =>
 oM Tryz.prog (.pick (.tmp 0) (.tmp 1) (.tmp 2)) 4 [v63_44, (.bool true), v66_46] (fun v67_47 w =>
 condM v67_47
 (M_18 [(l_15.getD 0 undef), (l_38.getD 0 undef), (l_15.getD 2 undef), (l_15.getD 3 undef), (l_15.getD 4 undef), (l_15.getD 5 undef), (l_15.getD 6 undef), (l_15.getD 7 undef), (l_15.getD 8 undef)] w)
 (oM Tryz.prog (.fieldAddr 38 (.tmp 0) 0) 0 [v11_22] (fun v68_48 w =>
 oM Tryz.prog (.load 3 (.tmp 0)) 3 [v68_48] (fun v69_49 w =>
 oM Tryz.prog (.binOp .eql 3 (.tmp 0) (.const (.int .i64 0)) 3) 4 [v69_49] (fun v70_50 w =>
 condM v70_50
 (oM Tryz.prog (.fieldAddr 38 (.tmp 0) 1) 0 [v11_22] (fun v72_51 w =>
 oM Tryz.prog (.load 9 (.tmp 0)) 9 [v72_51] (fun v73_52 w =>
 callM Tryz.prog 12 #[(l_15.getD 7 undef), v73_52] (fun v74_53 w =>
 oM Tryz.prog (.fieldAddr 38 (.tmp 0) 1) 0 [v11_22] (fun v76_54 w =>
 oM Tryz.prog (.load 9 (.tmp 0)) 9 [v76_54] (fun v77_55 w =>
 callM Tryz.prog 13 #[(l_15.getD 8 undef), v77_55] (fun v78_56 w =>
 M_33 [(l_38.getD 0 undef), (l_15.getD 0 undef), v74_53, v78_56, (l_15.getD 4 undef), (l_15.getD 5 undef), (l_15.getD 6 undef), (l_15.getD 7 undef), (l_15.getD 8 undef)] w) w) w) w) w) w) w)
 (callM Tryz.prog 14 #[(l_15.getD 7 undef)] (fun v80_57 w =>
 callM Tryz.prog 15 #[(l_15.getD 8 undef)] (fun v82_58 w =>
 M_33 [(l_38.getD 0 undef), (l_15.getD 0 undef), v80_57, v82_58, (l_15.getD 4 undef), (l_15.getD 5 undef), (l_15.getD 6 undef), (l_15.getD 7 undef), (l_15.getD 8 undef)] w) w) w)) w) w) w)) w) w) w) w)) w) w) w)
 (oM Tryz.prog (.binOp .eql 3 (.tmp 0) (.const (.int .i64 2)) 3) 4 [v53_36] (fun v84_59 w =>
 condM v84_59
 (oM Tryz.prog (.fieldAddr 38 (.tmp 0) 2) 0 [v11_22] (fun v86_60 w =>
 oM Tryz.prog (.load 3 (.tmp 0)) 3 [v86_60] (fun v87_61 w =>
 callM Tryz.prog 16 #[v21_4, v87_61] (fun v88_62 w =>
 oM Tryz.prog (.fieldAddr 38 (.tmp 0) 2) 0 [v11_22] (fun v90_63 w =>
 oM Tryz.prog (.load 3 (.tmp 0)) 3 [v90_63] (fun v91_64 w =>
 callM Tryz.prog 17 #[v22_5, v91_64] (fun v92_65 w =>
 M_33 [(l_38.getD 0 undef), (l_15.getD 0 undef), (l_15.getD 2 undef), (l_15.getD 3 undef), v84_59, (l_15.getD 5 undef), (l_15.getD 6 undef), (l_15.getD 7 undef), (l_15.getD 8 undef)] w) w) w) w) w) w) w)
 (oM Tryz.prog (.binOp .eql 3 (.tmp 0) (.const (.int .i64 3)) 3) 4 [v53_36] (fun v94_66 w =>
 condM v94_66
 (oM Tryz.prog (.fieldAddr 38 (.tmp 0) 2) 0 [v11_22] (fun v96_67 w =>
 oM Tryz.prog (.load 3 (.tmp 0)) 3 [v96_67] (fun v97_68 w =>
 oM Tryz.prog (.fieldAddr 38 (.tmp 0) 3) 0 [v11_22] (fun v98_69 w =>
 oM Tryz.prog (.load 36 (.tmp 0)) 36 [v98_69] (fun v99_70 w =>
 callM Tryz.prog 18 #[v21_4, v97_68, v99_70] (fun v100_71 w =>
 oM Tryz.prog (.fieldAddr 38 (.tmp 0) 2) 0 [v11_22] (fun v102_72 w =>
 oM Tryz.prog (.load 3 (.tmp 0)) 3 [v102_72] (fun v103_73 w =>
 oM Tryz.prog (.fieldAddr 38 (.tmp 0) 3) 0 [v11_22] (fun v104_74 w =>
 oM Tryz.prog (.load 36 (.tmp 0)) 36 [v104_74] (fun v105_75 w =>
 callM Tryz.prog 19 #[v22_5, v103_73, v105_75] (fun v106_76 w =>
 M_33 [(l_38.getD 0 undef), (l_15.getD 0 undef), (l_15.getD 2 undef), (l_15.getD 3 undef), v84_59, v94_66, (l_15.getD 6 undef), (l_15.getD 7 undef), (l_15.getD 8 undef)] w) w) w) w) w) w) w) w) w) w) w)
 (joinM (fun M_77 => (oM Tryz.prog (.binOp .eql 3 (.tmp 0) (.const (.int .i64 4)) 3) 4 [v53_36] (fun v108_79 w =>
 condM v108_79
 (M_77 [v108_79] w)
 (oM Tryz.prog (.binOp .eql 3 (.tmp 0) (.const (.int .i64 5)) 3) 4 [v53_36] (fun v109_80 w =>
 M_77 [v109_80] w) w)) w))
 (fun l_78 u_l_78 w => (post_3_77 M_33 l_15 l_38 v11_22 v21_4 v22_5 v84_59 v94_66 l_78 w)))) w)) w)
def held_3_107 (K : Value → World → Prop) (M_18 : List Value → World → Prop) (l_34 : List Value) (w : World) : Prop :=
 heldM w (fun C_107 w => (((true : Bool) = true) ∧ (pureH (l_34.getD 7 undef) C_107 (fun v145_108 =>
 oH Tryz.prog (.binOp .neq 29 (.tmp 0) (.const (.pointer none)) 29) 4 [v145_108] C_107 (fun v146_109 =>
 pureH v146_109 C_107 (fun v147_110 =>
 gdH (gd v147_110 true) (pureH (l_34.getD 8 undef)) C_107 (fun v148_111 =>
 gdH (gd v147_110 true) (oH Tryz.prog (.binOp .neq 33 (.tmp 0) (.const (.pointer none)) 33) 4 [v148_111]) C_107 (fun v149_112 =>
 oH Tryz.prog (.pick (.tmp 0) (.tmp 1) (.tmp 2)) 4 [v147_110, v149_112, (.bool false)] C_107 (fun v150_113 =>
 pureH v150_113 C_107 (fun v151_114 =>
 gdH (gd v151_114 true) (pureH (l_34.getD 7 undef)) C_107 (fun v152_115 =>
 gdH (gd v151_114 true) (pureH (l_34.getD 8 undef)) C_107 (fun v154_116 =>
 gdH (gd v151_114 true) (oH Tryz.prog (.nilCheck (.tmp 0)) 0 [v154_116]) C_107 (fun v155_117 =>
 gdH (gd v151_114 true) (oH Tryz.prog (.fieldAddr 49 (.tmp 0) 2) 0 [v155_117]) C_107 (fun v156_118 =>
 gdH (gd v151_114 true) (oH Tryz.prog (.load 46 (.tmp 0)) 46 [v156_118]) C_107 (fun v157_119 =>
 ∃ S_120 : World → World → Prop, ∃ R_121 : Value → World → Prop, (∀ v w w_1, S_120 w w_1 → R_121 v w → R_121 v w_1) ∧
 (∀ w, C_107 w → (gdM (gd v151_114 true) (callM Tryz.prog 25 #[v152_115]) (fun v w_1 => C_107 w_1 ∧ S_120 w w_1 ∧ R_121 v w_1) w)) ∧
 (∀ w, C_107 w → ∀ v153_122, R_121 v153_122 w → (
 gdM (gd v151_114 true) (callM Tryz.prog 24 #[v153_122, v157_119]) (fun v158_123 w =>
 gdM (gd v151_114 true) (oM Tryz.prog (.unOp .not 4 (.tmp 0)) 4 [v158_123]) (fun v159_124 w =>
 oM Tryz.prog (.pick (.tmp 0) (.tmp 1) (.tmp 2)) 4 [v151_114, v159_124, (.bool false)] (fun v160_125 w =>
 condM v160_125
 (K (.bool false) w)
 (M_18 [(l_34.getD 1 undef), (l_34.getD 0 undef), (l_34.getD 2 undef), (l_34.getD 3 undef), (l_34.getD 4 undef), (l_34.getD 5 undef), (l_34.getD 6 undef), (l_34.getD 7 undef), (l_34.getD 8 undef)] w)) w) w) w)))))))))))))))))
def pre_3_33 (K : Value → World → Prop) (M_18 : List Value → World → Prop) (l_15 : List Value) (v11_22 : Value) (v21_4 : Value) (v22_5 : Value) (M_33 : List Value → World → Prop) (w : World) : Prop :=
 oM Tryz.prog (.fieldAddr 38 (.tmp 0) 0) 0 [v11_22] (fun v52_35 w =>
 oM Tryz.prog (.load 3 (.tmp 0)) 3 [v52_35] (fun v53_36 w =>
 joinM (fun M_37 => (oM Tryz.prog (.binOp .eql 3 (.tmp 0) (.const (.int .i64 0)) 3) 4 [v53_36] (fun v55_39 w =>
 condM v55_39
 (M_37 [v55_39] w)
 (oM Tryz.prog (.binOp .eql 3 (.tmp 0) (.const (.int .i64 1)) 3) 4 [v53_36] (fun v56_40 w =>
 M_37 [v56_40] w) w)) w))
 (fun l_38 u_l_38 w => (post_3_37 K M_18 M_33 l_15 v11_22 v21_4 v22_5 v53_36 l_38 w))) w) w
def post_3_33 (K : Value → World → Prop) (M_18 : List Value → World → Prop) (l_34 : List Value) (w : World) : Prop :=
 oM Tryz.prog (.binOp .neq 30 (.tmp 0) (.tmp 1) 30) 4 [(l_34.getD 2 undef), (l_34.getD 3 undef)] (fun v137_100 w =>
 gdM (gd v137_100 false) (pureM (l_34.getD 7 undef)) (fun v139_101 w =>
 gdM (gd v137_100 false) (oM Tryz.prog (.binOp .eql 29 (.tmp 0) (.const (.pointer none)) 29) 4 [v139_101]) (fun v140_102 w =>
 gdM (gd v137_100 false) (pureM (l_34.getD 8 undef)) (fun v141_103 w =>
 gdM (gd v137_100 false) (oM Tryz.prog (.binOp .eql 33 (.tmp 0) (.const (.pointer none)) 33) 4 [v141_103]) (fun v142_104 w =>
 gdM (gd v137_100 false) (oM Tryz.prog (.binOp .neq 4 (.tmp 0) (.tmp 1) 4) 4 [v140_102, v142_104]) (fun v143_105 w =>
 oM Tryz.prog (.pick (.tmp 0) (.tmp 1) (.tmp 2)) 4 [v137_100, (.bool true), v143_105] (fun v144_106 w =>
 condM v144_106
 (K (.bool false) w)
 (held_3_107 K M_18 l_34 w)) w) w) w) w) w) w) w
def held_3_23 (K : Value → World → Prop) (M_18 : List Value → World → Prop) (l_15 : List Value) (v11_22 : Value) (v21_4 : Value) (v22_5 : Value) (w : World) : Prop :=
 heldM w (fun C_23 w => (((true : Bool) = true) ∧ (oH Tryz.prog (.fieldAddr 38 (.tmp 0) 1) 0 [v11_22] C_23 (fun v45_24 =>
 oH Tryz.prog (.load 9 (.tmp 0)) 9 [v45_24] C_23 (fun v46_25 =>
 oH Tryz.prog (.fieldAddr 38 (.tmp 0) 1) 0 [v11_22] C_23 (fun v48_26 =>
 oH Tryz.prog (.load 9 (.tmp 0)) 9 [v48_26] C_23 (fun v49_27 =>
 ∃ S_28 : World → World → Prop, ∃ R_29 : Value → World → Prop, (∀ v w w_1, S_28 w w_1 → R_29 v w → R_29 v w_1) ∧
 (∀ w, C_23 w → (callM Tryz.prog 10 #[v46_25] (fun v w_1 => C_23 w_1 ∧ S_28 w w_1 ∧ R_29 v w_1) w)) ∧
 (∀ w, C_23 w → ∀ v47_30, R_29 v47_30 w → (
 callM Tryz.prog 11 #[v49_27] (fun v50_31 w =>
 oM Tryz.prog (.binOp .neq 3 (.tmp 0) (.tmp 1) 3) 4 [v47_30, v50_31] (fun v51_32 w =>
 condM v51_32
 (K (.bool false) w)
 (joinM (fun M_33 => (pre_3_33 K M_18 l_15 v11_22 v21_4 v22_5 M_33 w))
 (fun l_34 u_l_34 w => (post_3_33 K M_18 l_34 w)))) w) w)))))))))
def pre_3_18 (K : Value → World → Prop) (a0 : Value) (l_15 : List Value) (v21_4 : Value) (v22_5 : Value) (M_18 : List Value → World → Prop) (w : World) : Prop :=
 oM Tryz.prog (.indexAddr 22 (.tmp 0) (.tmp 1)) 0 [a0, (l_15.getD 9 undef)] (fun v43_20 w =>
 oM Tryz.prog (.load 38 (.tmp 0)) 38 [v43_20] (fun v44_21 w =>
 oM Tryz.prog (.alloc 38) 0 [] (fun v11_22 w =>
 oM Tryz.prog (.store 38 (.tmp 0) (.tmp 1)) 0 [v11_22, v44_21] (fun _ w =>
 held_3_23 K M_18 l_15 v11_22 v21_4 v22_5 w) w) w) w) w
def post_3_18 (J_13 : List Value → World → Prop) (l_15 : List Value) (m_14 : List Value → World → Nat) (w0_l_15 : World) (l_19 : List Value) (w : World) : Prop :=
 oM Tryz.prog (.binOp .add 3 (.tmp 0) (.tmp 1) 3) 3 [(l_15.getD 9 undef), (.int .i64 1)] (fun v40_126 w =>
 J_13 [(l_19.getD 0 undef), (l_19.getD 1 undef), (l_19.getD 2 undef), (l_19.getD 3 undef), (l_19.getD 4 undef), (l_19.getD 5 undef), (l_19.getD 6 undef), (l_19.getD 7 undef), (l_19.getD 8 undef), v40_126] w ∧ m_14 [(l_19.getD 0 undef), (l_19.getD 1 undef), (l_19.getD 2 undef), (l_19.getD 3 undef), (l_19.getD 4 undef), (l_19.getD 5 undef), (l_19.getD 6 undef), (l_19.getD 7 undef), (l_19.getD 8 undef), v40_126] w < m_14 l_15 w0_l_15) w
def loop_3_13 (J_13 : List Value → World → Prop) (K : Value → World → Prop) (a0 : Value) (l_15 : List Value) (m_14 : List Value → World → Nat) (v16_1 : Value) (v21_4 : Value) (v22_5 : Value) (w0_l_15 : World) : Prop :=
(fun w => (
 oM Tryz.prog (.call (Go.Call.mk (.builtin .len) #[(.tmp 0)] #[22])) 3 [a0] (fun v37_16 w =>
 oM Tryz.prog (.binOp .lss 3 (.tmp 0) (.tmp 1) 3) 4 [(l_15.getD 9 undef), v37_16] (fun v38_17 w =>
 condM v38_17
 (joinM (fun M_18 => (pre_3_18 K a0 l_15 v21_4 v22_5 M_18 w))
 (fun l_19 u_l_19 w => (post_3_18 J_13 l_15 m_14 w0_l_15 l_19 w)))
 (callM Tryz.prog 22 #[v21_4] (fun v162_127 w =>
 callM Tryz.prog 23 #[v22_5] (fun v164_128 w =>
 callM Tryz.prog 27 #[v21_4, (.int .i64 3)] (fun v168_129 w =>
 callM Tryz.prog 26 #[v21_4, (.int .i64 3), (.int .i64 0), v168_129] (fun v169_130 w =>
 oM Tryz.prog (.extract (.tmp 0) 0) 9 [v169_130] (fun v170_131 w =>
 oM Tryz.prog (.extract (.tmp 0) 1) 30 [v169_130] (fun v171_132 w =>
 callM Tryz.prog 29 #[v22_5, (.int .i64 3)] (fun v175_133 w =>
 callM Tryz.prog 28 #[v22_5, (.int .i64 3), (.int .i64 0), v175_133] (fun v176_134 w =>
 oM Tryz.prog (.extract (.tmp 0) 0) 9 [v176_134] (fun v177_135 w =>
 oM Tryz.prog (.extract (.tmp 0) 1) 30 [v176_134] (fun v178_136 w =>
 gdM (gd v16_1 true) (pureM v170_131) (fun v181_137 w =>
 gdM (gd v16_1 true) (pureM v177_135) (fun v182_138 w =>
 gdM (gd v16_1 true) (oM Tryz.prog (.binOp .eql 9 (.tmp 0) (.tmp 1) 9) 4 [v181_137, v182_138]) (fun v183_139 w =>
 oM Tryz.prog (.pick (.tmp 0) (.tmp 1) (.tmp 2)) 4 [v16_1, v183_139, (.bool false)] (fun v184_140 w =>
 K v184_140 w) w) w) w) w) w) w) w) w) w) w) w) w) w) w)) w) w)) w0_l_15
def sh_3 (a0 : Value) (K : Value → World → Prop) (w : World) : Prop :=
 callM Tryz.prog 4 #[] (fun v16_1 w =>
 callM Tryz.prog 5 #[a0] (fun v18_2 w =>
 oM Tryz.prog (.unOp .not 4 (.tmp 0)) 4 [v18_2] (fun v19_3 w =>
 condM v19_3
 (K v16_1 w)
 (callM Tryz.prog 6 #[] (fun v21_4 w =>
 callM Tryz.prog 7 #[] (fun v22_5 w =>
 oM Tryz.prog (.binOp .eql 25 (.tmp 0) (.const (.pointer none)) 25) 4 [v21_4] (fun v24_6 w =>
 condM v24_6
 (K (.bool false) w)
 (callM Tryz.prog 8 #[v21_4, (.int .i64 3)] (fun v27_7 w =>
 oM Tryz.prog (.extract (.tmp 0) 0) 29 [v27_7] (fun v28_8 w =>
 oM Tryz.prog (.extract (.tmp 0) 1) 30 [v27_7] (fun v29_9 w =>
 callM Tryz.prog 9 #[v22_5, (.int .i64 3)] (fun v32_10 w =>
 oM Tryz.prog (.extract (.tmp 0) 0) 33 [v32_10] (fun v33_11 w =>
 oM Tryz.prog (.extract (.tmp 0) 1) 30 [v32_10] (fun v34_12 w =>
 loopM [(.bool false), undef, v29_9, v34_12, undef, undef, undef, v28_8, v33_11, (.int .i64 0)] w (fun J_13 m_14 l_15 u_l_15 w0_l_15 => loop_3_13 J_13 K a0 l_15 m_14 v16_1 v21_4 v22_5 w0_l_15)) w) w) w) w) w) w)) w) w) w)) w) w) w
theorem sh_3_eq (a0 : Value) (K : Value → World → Prop) (w : World) : sh_3 a0 K w = code Tryz.prog (fun i => bif Nat.beq i 14 then .free [0, 1, 3, 4] [2] [5, 6] else bif Nat.beq i 44 then .free [0, 1, 2, 3, 4, 5, 6, 7, 9, 10, 11, 12] [8] [13, 14, 15] else 0) 185 (Tryz.f3.body.getD .skip) (slotsAt [a0]) (retK Tryz.prog [.tmp 2] K) w := by kernel_rfl
theorem sh_3_ok {a0 : Value} {K : Value → World → Prop} {w : World} (h : sh_3 a0 K w) : callM Tryz.prog 3 #[a0] K w :=
  calls_of_code (fun i => bif Nat.beq i 14 then .free [0, 1, 3, 4] [2] [5, 6] else bif Nat.beq i 44 then .free [0, 1, 2, 3, 4, 5, 6, 7, 9, 10, 11, 12] [8] [13, 14, 15] else 0) (fn := Tryz.f3) (rs := [.tmp 2]) Tryz.func3 rfl rfl (by kernel_rfl) (Nat.le_of_ble_eq_true rfl) ((sh_3_eq a0 K w).mp h)
end Go.Proofs
namespace Go.Proofs
open Go Go.Sh Go.RowKit CodeSpec JnSpec DkSpec
set_option linter.unusedSimpArgs false
set_option linter.unusedVariables false
set_option maxRecDepth 10000
def JV1 (W : World) (O : Nat → Prop) (b : Nat) (h : Dk) (jv : Value) : Option Jn → Prop
  | none => jv = .pointer none
  | some j => ∃ p u, jv = jnP p ∧ IsJn W b h p 3 j u ∧ ∀ i, JO p u i → O i
def JV2 (W : World) (O : Nat → Prop) (b : Nat) (h : Rh) (kv : Value) : Option Jn → Prop
  | none => kv = .pointer none
  | some j => ∃ q u, kv = jnP q ∧ IsJr W b h q 3 j u ∧ ∀ i, JO q u i → O i
structure PS (w0 W : World) (Kp O1 O2 : Nat → Prop) (b : Nat) (A1 : Ab) (h : Dk) (jo1 : Option Jn) (jv : Value) (rb : Nat) (A2 : Ab) (hr : Rh) (jo2 : Option Jn) (kv : Value) : Prop where
  s : Sys W b A1 h
  r : IsRf W rb A2 hr
  j1 : JV1 W O1 b h jv jo1
  j2 : JV2 W O2 rb hr kv jo2
  i1 : ∀ i, Own b h i → O1 i
  i2 : ∀ i, OwnR rb hr i → O2 i
  d1 : ∀ i, Rdb h i → ¬ O2 i
  d2 : ∀ i, RdbR hr i → ¬ O1 i
  n : ∀ i, O1 i ∨ O2 i → w0.heap.size ≤ i ∧ i < W.heap.size
  x : ∀ i, O1 i → ¬ O2 i
  kp : ∀ k, Kp k → k < W.heap.size ∧ ¬ O1 k ∧ ¬ O2 k
  bl : Below w0.heap.size w0 W
def Grow (O : Nat → Prop) (W W' : World) : Nat → Prop := fun i => O i ∨ (W.heap.size ≤ i ∧ i < W'.heap.size)
section
variable {w0 W W' : World} {Kp Kp' O1 O2 : Nat → Prop} {b rb : Nat} {A1 A2 A1' A2' : Ab} {h h' : Dk} {hr hr' : Rh} {jo1 jo2 jo1' jo2' : Option Jn} {jv kv jv' kv' : Value} {K : Value → World → Prop}
theorem PS.fresh (P : PS w0 W Kp O1 O2 b A1 h jo1 jv rb A2 hr jo2 kv) (hb : Below W.heap.size W W') (hk : ∀ k, Kp' k → Kp k ∨ (W.heap.size ≤ k ∧ k < W'.heap.size)) : PS w0 W' Kp' O1 O2 b A1 h jo1 jv rb A2 hr jo2 kv := by
  refine ⟨P.s.below hb, P.r.below hb, ?_, ?_, P.i1, P.i2, P.d1, P.d2, fun i hi => ⟨(P.n i hi).1, Nat.lt_of_lt_of_le (P.n i hi).2 hb.size⟩, P.x, fun k hkp => ?_, P.bl.trans (hb.mono P.bl.size)⟩
  · have := P.j1
    cases jo1 with
    | none => exact this
    | some j => obtain ⟨p, u, e, jn, ho⟩ := this; exact ⟨p, u, e, jn.below hb, ho⟩
  · have := P.j2
    cases jo2 with
    | none => exact this
    | some j => obtain ⟨p, u, e, jn, ho⟩ := this; exact ⟨p, u, e, jn.below hb, ho⟩
  · rcases hk k hkp with e | e
    · have := P.kp k e
      exact ⟨Nat.lt_of_lt_of_le this.1 hb.size, this.2⟩
    · exact ⟨e.2, fun ho => by have := (P.n k (.inl ho)).2; omega, fun ho => by have := (P.n k (.inr ho)).2; omega⟩
theorem PS.below (P : PS w0 W Kp O1 O2 b A1 h jo1 jv rb A2 hr jo2 kv) (hb : Below W.heap.size W W') : PS w0 W' Kp O1 O2 b A1 h jo1 jv rb A2 hr jo2 kv := P.fresh hb (fun _ h => .inl h)
theorem PS.left (P : PS w0 W Kp O1 O2 b A1 h jo1 jv rb A2 hr jo2 kv) (s' : Sys W' b A1' h') (fr : Fr O1 W W') (own : ∀ i, Own b h' i → Own b h i ∨ W.heap.size ≤ i) (rd : ∀ i, Rdb h' i → Rdb h i ∨ W.heap.size ≤ i)
    (j' : JV1 W' (Grow O1 W W') b h' jv' jo1') : PS w0 W' Kp (Grow O1 W W') O2 b A1' h' jo1' jv' rb A2 hr jo2 kv ∧ (∀ k, Kp k → W'.heap[k]? = W.heap[k]?) ∧ Below w0.heap.size W W' := by
  have hz := P.bl.size
  have hbl : Below w0.heap.size W W' := ⟨fr.os, fr.tape, fr.output, fr.size, fun i hi => fr.block i (by omega) (fun ho => by have := (P.n i (.inl ho)).1; omega)⟩
  refine ⟨⟨s', P.r.keep (fun i hi => fr.block i (P.r.lt hi) (fun ho => hi.elim (fun e => P.x i ho (P.i2 i e)) (fun e => P.d2 i e ho))), j', ?_, fun i hi => ?_, P.i2, fun i hi => ?_, fun i hi => ?_, fun i hi => ?_, fun i hi => ?_, fun k hk => ?_, P.bl.trans hbl⟩, fun k hk => fr.block k (P.kp k hk).1 (P.kp k hk).2.1, hbl⟩
  · have hj := P.j2
    cases jo2 with
    | none => exact hj
    | some j =>
      obtain ⟨q, u, e, jr, ho⟩ := hj
      exact ⟨q, u, e, jr.keep (fun i hi => fr.block i (jr.lt hi) (fun h1 => P.x i h1 (ho i hi))) jr.sep, ho⟩
  · exact (own i hi).imp (P.i1 i) (fun e => ⟨e, s'.d.lt (.inl hi)⟩)
  · exact fun ho => (rd i hi).elim (fun e => P.d1 i e ho) (fun e => by have := (P.n i (.inr ho)).2; omega)
  · rintro (ho | ho)
    · exact P.d2 i hi ho
    · have := P.r.lt (.inr hi); omega
  · rcases hi with (hi | hi) | hi
    · exact ⟨(P.n i (.inl hi)).1, Nat.lt_of_lt_of_le (P.n i (.inl hi)).2 fr.size⟩
    · exact ⟨by omega, hi.2⟩
    · exact ⟨(P.n i (.inr hi)).1, Nat.lt_of_lt_of_le (P.n i (.inr hi)).2 fr.size⟩
  · exact fun ho => hi.elim (fun e => P.x i e ho) (fun e => by have := (P.n i (.inr ho)).2; omega)
  · have := P.kp k hk
    exact ⟨Nat.lt_of_lt_of_le this.1 fr.size, fun ho => ho.elim this.2.1 (fun e => by omega), this.2.2⟩
theorem PS.right (P : PS w0 W Kp O1 O2 b A1 h jo1 jv rb A2 hr jo2 kv) (r' : IsRf W' rb A2' hr') (fr : Fr O2 W W') (own : ∀ i, OwnR rb hr' i → OwnR rb hr i ∨ W.heap.size ≤ i) (rd : ∀ i, RdbR hr' i → RdbR hr i ∨ W.heap.size ≤ i)
    (h6 : 6 ≤ w0.heap.size) (j' : JV2 W' (Grow O2 W W') rb hr' kv' jo2') : PS w0 W' Kp O1 (Grow O2 W W') b A1 h jo1 jv rb A2' hr' jo2' kv' ∧ (∀ k, Kp k → W'.heap[k]? = W.heap[k]?) ∧ Below w0.heap.size W W' := by
  have hz := P.bl.size
  have hbl : Below w0.heap.size W W' := ⟨fr.os, fr.tape, fr.output, fr.size, fun i hi => fr.block i (by omega) (fun ho => by have := (P.n i (.inr ho)).1; omega)⟩
  have hx : ∀ i, O2 i → ¬ (Own b h i ∨ Rdb h i) := fun i ho e => e.elim (fun e => P.x i (P.i1 i e) ho) (fun e => P.d1 i e ho)
  refine ⟨⟨P.s.fresh fr (fun i hi => ⟨hx i hi, by have := (P.n i (.inr hi)).1; omega⟩), r', ?_, j', P.i1, fun i hi => ?_, fun i hi => ?_, fun i hi => ?_, fun i hi => ?_, fun i hi => ?_, fun k hk => ?_, P.bl.trans hbl⟩, fun k hk => fr.block k (P.kp k hk).1 (P.kp k hk).2.2, hbl⟩
  · have hj := P.j1
    cases jo1 with
    | none => exact hj
    | some j =>
      obtain ⟨q, u, e, jn, ho⟩ := hj
      exact ⟨q, u, e, jn.keep fr (fun i hi hj => P.x i (ho i hj) hi) (fun i hi => hi.elim .inl (fun e => .inr (.inl e))), ho⟩
  · exact (own i hi).imp (P.i2 i) (fun e => ⟨e, r'.lt (.inl hi)⟩)
  · rintro (ho | ho)
    · exact P.d1 i hi ho
    · have := P.s.d.lt (.inr hi); omega
  · exact fun ho => (rd i hi).elim (fun e => P.d2 i e ho) (fun e => by have := (P.n i (.inl ho)).2; omega)
  · rcases hi with hi | (hi | hi)
    · exact ⟨(P.n i (.inl hi)).1, Nat.lt_of_lt_of_le (P.n i (.inl hi)).2 fr.size⟩
    · exact ⟨(P.n i (.inr hi)).1, Nat.lt_of_lt_of_le (P.n i (.inr hi)).2 fr.size⟩
    · exact ⟨by omega, hi.2⟩
  · rintro (ho | ho)
    · exact P.x i hi ho
    · have := (P.n i (.inl hi)).2; omega
  · have := P.kp k hk
    exact ⟨Nat.lt_of_lt_of_le this.1 fr.size, this.2.1, fun ho => ho.elim this.2.2 (fun e => by omega)⟩
theorem PS.disk (P : PS w0 W Kp O1 O2 b A1 h jo1 jv rb A2 hr jo2 kv) (d : IsDk W' b A1' h') (t : Step W b h W' h') : PS w0 W' Kp (Grow O1 W W') O2 b A1' h' jo1 jv rb A2 hr jo2 kv ∧ (∀ k, Kp k → W'.heap[k]? = W.heap[k]?) ∧ Below w0.heap.size W W' := by
  refine P.left (P.s.step d t) (t.fr.mono (fun i _ e => P.i1 i e)) t.own t.rd ?_
  have hj := P.j1
  cases jo1 with
  | none => exact hj
  | some j =>
    obtain ⟨q, u, e, jn, ho⟩ := hj
    exact ⟨q, u, e, jn.step t, fun i hi => .inl (ho i hi)⟩
theorem PS.diskR (P : PS w0 W Kp O1 O2 b A1 h jo1 jv rb A2 hr jo2 kv) (h6 : 6 ≤ w0.heap.size) (d : IsRf W' rb A2' hr') (t : StepR W rb hr W' hr') : PS w0 W' Kp O1 (Grow O2 W W') b A1 h jo1 jv rb A2' hr' jo2 kv ∧ (∀ k, Kp k → W'.heap[k]? = W.heap[k]?) ∧ Below w0.heap.size W W' := by
  refine P.right d (t.fr.mono (fun i _ e => P.i2 i e)) t.own t.rd h6 ?_
  have hj := P.j2
  cases jo2 with
  | none => exact hj
  | some j =>
    obtain ⟨q, u, e, jr, ho⟩ := hj
    exact ⟨q, u, e, jr.step t, fun i hi => .inl (ho i hi)⟩
end
end Go.Proofs
namespace Go.Proofs
open Go Go.Sh Go.RowKit CodeSpec JnSpec DkSpec
set_option linter.unusedSimpArgs false
set_option linter.unusedVariables false
set_option maxRecDepth 10000
section
variable {w0 W W' : World} {Kp Kp' O1 O2 : Nat → Prop} {b rb : Nat} {A A1 A2 A1' A2' : Ab} {h h' : Dk} {hr hr' : Rh} {j : Jn} {jo1 jo2 jo1' jo2' : Option Jn} {jv kv jv' kv' : Value} {K : Value → World → Prop}
theorem PS.append (P : PS w0 W Kp O1 O2 b A h (some j) jv rb A2 hr jo2 kv) (t : Bs) (ht : t.length ≤ 16777216)
    (k : ∀ W' h' O1', PS w0 W' Kp O1' O2 b (appendJ A 3 j t).2.1 h' (some (appendJ A 3 j t).2.2) jv rb A2 hr jo2 kv → (∀ k, Kp k → W'.heap[k]? = W.heap[k]?) → Below w0.heap.size W W' → K (.int .i64 (appendJ A 3 j t).1) W') :
    callM Tryz.prog 12 #[jv, .string ⟨t.toArray⟩] K W := by
  obtain ⟨p, u, rfl, jn, ho⟩ := P.j1
  refine append_ok P.s jn (by omega) t ht (fun W' h' u' s' jn' t' => ?_)
  have hf : Fr O1 W W' := t'.fr.mono (fun i _ e => e.elim (P.i1 i) (ho i))
  obtain ⟨P', hk, hb⟩ := P.left (jo1' := some (appendJ A 3 j t).2.2) (jv' := jnP p) s' hf t'.own t'.rd ⟨p, u', rfl, jn', fun i hi => (t'.jo i hi).imp (ho i) (fun e => ⟨e, jn'.lt hi⟩)⟩
  exact k W' h' _ P' hk hb
theorem PS.appendR (P : PS w0 W Kp O1 O2 b A1 h jo1 jv rb A hr (some j) kv) (h6 : 6 ≤ w0.heap.size) (t : Bs) (ht : t.length ≤ 16777216)
    (k : ∀ W' h' O2', PS w0 W' Kp O1 O2' b A1 h jo1 jv rb (appendJ A 3 j t).2.1 h' (some (appendJ A 3 j t).2.2) kv → (∀ k, Kp k → W'.heap[k]? = W.heap[k]?) → Below w0.heap.size W W' → K (.int .i64 (appendJ A 3 j t).1) W') :
    callM Tryz.prog 13 #[kv, .string ⟨t.toArray⟩] K W := by
  obtain ⟨p, u, rfl, jr, ho⟩ := P.j2
  refine rappend_ok P.r jr (by omega) t ht (fun W' h' u' s' jn' t' => ?_)
  have hf : Fr O2 W W' := t'.fr.mono (fun i _ e => e.elim (P.i2 i) (ho i))
  obtain ⟨P', hk, hb⟩ := P.right (jo2' := some (appendJ A 3 j t).2.2) (kv' := jnP p) s' hf t'.own t'.rd h6 ⟨p, u', rfl, jn', fun i hi => (t'.jo i hi).imp (ho i) (fun e => ⟨e, jn'.lt hi⟩)⟩
  exact k W' h' _ P' hk hb
theorem PS.sync (P : PS w0 W Kp O1 O2 b A h (some j) jv rb A2 hr jo2 kv)
    (k : ∀ W' h' O1', PS w0 W' Kp O1' O2 b (syncJ A 3 j).2.1 h' (some (syncJ A 3 j).2.2) jv rb A2 hr jo2 kv → (∀ k, Kp k → W'.heap[k]? = W.heap[k]?) → Below w0.heap.size W W' → K (.int .i64 (syncJ A 3 j).1) W') :
    callM Tryz.prog 14 #[jv] K W := by
  obtain ⟨p, u, rfl, jn, ho⟩ := P.j1
  refine syncJ_ok P.s jn (fun W' h' s' jn' t' => ?_)
  have hf : Fr O1 W W' := t'.fr.mono (fun i _ e => e.elim (P.i1 i) (ho i))
  obtain ⟨P', hk, hb⟩ := P.left (jo1' := some (syncJ A 3 j).2.2) (jv' := jnP p) s' hf t'.own t'.rd ⟨p, u, rfl, jn', fun i hi => (t'.jo i hi).imp (ho i) (fun e => ⟨e, jn'.lt hi⟩)⟩
  exact k W' h' _ P' hk hb
theorem PS.syncR (P : PS w0 W Kp O1 O2 b A1 h jo1 jv rb A hr (some j) kv) (h6 : 6 ≤ w0.heap.size)
    (k : ∀ W' h' O2', PS w0 W' Kp O1 O2' b A1 h jo1 jv rb (syncJ A 3 j).2.1 h' (some (syncJ A 3 j).2.2) kv → (∀ k, Kp k → W'.heap[k]? = W.heap[k]?) → Below w0.heap.size W W' → K (.int .i64 (syncJ A 3 j).1) W') :
    callM Tryz.prog 15 #[kv] K W := by
  obtain ⟨p, u, rfl, jr, ho⟩ := P.j2
  refine rsyncJ_ok P.r jr (fun W' h' s' jn' t' => ?_)
  have hf : Fr O2 W W' := t'.fr.mono (fun i _ e => e.elim (P.i2 i) (ho i))
  obtain ⟨P', hk, hb⟩ := P.right (jo2' := some (syncJ A 3 j).2.2) (kv' := jnP p) s' hf t'.own t'.rd h6 ⟨p, u, rfl, jn', fun i hi => (t'.jo i hi).imp (ho i) (fun e => ⟨e, jn'.lt hi⟩)⟩
  exact k W' h' _ P' hk hb
theorem PS.open (P : PS w0 W Kp O1 O2 b A h jo1 jv rb A2 hr jo2 kv)
    (k : ∀ W' h' O1' jv', PS w0 W' Kp O1' O2 b (openJ A 3).2.2 h' (openJ A 3).1 jv' rb A2 hr jo2 kv → (∀ k, Kp k → W'.heap[k]? = W.heap[k]?) → Below w0.heap.size W W' → K (.tuple #[jv', .int .i64 (openJ A 3).2.1]) W') :
    callM Tryz.prog 8 #[dkP b, .int .i64 3] K W := by
  refine openJ_ok P.s 3 (fun W' h' r s' t' o' => ?_)
  have hf : Fr O1 W W' := t'.fr.mono (fun i _ e => P.i1 i e)
  obtain ⟨P', hk, hb⟩ := P.left (jo1' := (openJ A 3).1) (jv' := r) s' hf t'.own t'.rd (by
    revert o'
    generalize (openJ A 3).1 = o
    intro o'
    cases o with
    | none => exact o'
    | some j =>
      obtain ⟨p, u, e, jn, hj⟩ := o'
      exact ⟨p, u, e, jn, fun i hi => .inr ⟨hj i hi, jn.lt hi⟩⟩)
  exact k W' h' _ r P' hk hb
theorem PS.openR (P : PS w0 W Kp O1 O2 b A1 h jo1 jv rb A hr jo2 kv) (h6 : 6 ≤ w0.heap.size)
    (k : ∀ W' h' O2' kv', PS w0 W' Kp O1 O2' b A1 h jo1 jv rb (openJ A 3).2.2 h' (openJ A 3).1 kv' → (∀ k, Kp k → W'.heap[k]? = W.heap[k]?) → Below w0.heap.size W W' → K (.tuple #[kv', .int .i64 (openJ A 3).2.1]) W') :
    callM Tryz.prog 9 #[dkP rb, .int .i64 3] K W := by
  refine ropenJ_ok P.r 3 (fun W' h' r s' t' o' => ?_)
  have hf : Fr O2 W W' := t'.fr.mono (fun i _ e => P.i2 i e)
  obtain ⟨P', hk, hb⟩ := P.right (jo2' := (openJ A 3).1) (kv' := r) s' hf t'.own t'.rd h6 (by
    revert o'
    generalize (openJ A 3).1 = o
    intro o'
    cases o with
    | none => exact o'
    | some j =>
      obtain ⟨p, u, e, jn, hj⟩ := o'
      exact ⟨p, u, e, jn, fun i hi => .inr ⟨hj i hi, jn.lt hi⟩⟩)
  exact k W' h' _ r P' hk hb
end
end Go.Proofs
namespace Go.Proofs
open Go Go.Sh Go.RowKit CodeSpec JnSpec DkSpec
set_option linter.unusedSimpArgs false
set_option linter.unusedVariables false
set_option maxRecDepth 10000
attribute [local go_sem] oM_indexAddr
def InN (n : Int) : Prop := -2 ^ 63 ≤ n ∧ n < 2 ^ 63
structure JOp where
  k : Int
  s : Bs
  n : Int
  keep : List Int
structure OpCells (N : Nat) (w : World) (cs : List Value) (x : JOp) : Prop where
  row : ∃ vk, cs = [.int .i64 x.k, bsV x.s, .int .i64 x.n, vk] ∧ RowN intC N w vk x.keep
  kin : InN x.k
  nin : InN x.n
  kr : ∀ y ∈ x.keep, InN y
theorem OpCells.below {N : Nat} {w w' : World} {cs : List Value} {x : JOp} (h : OpCells N w cs x) (hb : Below N w w') : OpCells N w' cs x := by
  obtain ⟨vk, h1, h2⟩ := h.row
  exact ⟨⟨vk, h1, h2.below hb⟩, h.kin, h.nin, h.kr⟩
def OpRow (N : Nat) (w : World) (v : Value) (l : List JOp) : Prop :=
  ∃ ad c, v = .slice ad l.length c ∧ (l = [] ∨ ∃ b o, ad = some ⟨b, o, none⟩ ∧ b < N ∧ ∀ (i : Nat) (h : i < l.length), ∃ cs, OpCells N w cs l[i] ∧ cs.length = 4 ∧ ∀ j, j < 4 → w.cell? ⟨b, o + i * 4 + j, none⟩ = cs[j]?)
theorem OpRow.below {N : Nat} {w w' : World} {v : Value} {l : List JOp} (h : OpRow N w v l) (hb : Below N w w') : OpRow N w' v l := by
  obtain ⟨ad, c, h1, h2⟩ := h
  refine ⟨ad, c, h1, h2.imp id ?_⟩
  rintro ⟨b, o, h3, h4, h5⟩
  refine ⟨b, o, h3, h4, fun i hi => ?_⟩
  obtain ⟨cs, h6, h7, h8⟩ := h5 i hi
  exact ⟨cs, h6.below hb, h7, fun j hj => by rw [hb.cell h4]; exact h8 j hj⟩
theorem OpRow.at {N : Nat} {w : World} {v : Value} {l : List JOp} (h : OpRow N w v l) {i : Nat} (hi : i < l.length) : ∃ b o c vk, v = .slice (some ⟨b, o, none⟩) l.length c ∧ RowN intC N w vk l[i].keep ∧ OpCells N w [.int .i64 l[i].k, bsV l[i].s, .int .i64 l[i].n, vk] l[i] ∧
    w.cell? ⟨b, o + i * 4, none⟩ = some (.int .i64 l[i].k) ∧ w.cell? ⟨b, o + i * 4 + 1, none⟩ = some (bsV l[i].s) ∧ w.cell? ⟨b, o + i * 4 + 2, none⟩ = some (.int .i64 l[i].n) ∧ w.cell? ⟨b, o + i * 4 + 3, none⟩ = some vk := by
  obtain ⟨ad, c, rfl, h2⟩ := h
  rcases h2 with rfl | ⟨b, o, rfl, hb, hc⟩
  · simp at hi
  · obtain ⟨cs, h6, h7, h8⟩ := hc i hi
    obtain ⟨vk, rfl, hr⟩ := h6.row
    exact ⟨b, o, c, vk, rfl, hr, h6, h8 0 (by omega), h8 1 (by omega), h8 2 (by omega), h8 3 (by omega)⟩
theorem OpRow.len {N : Nat} {w : World} {v : Value} {l : List JOp} (h : OpRow N w v l) : ∃ a c, v = .slice a l.length c := by
  obtain ⟨ad, c, rfl, _⟩ := h; exact ⟨ad, c, rfl⟩
theorem idxOp {b o n c k : Nat} (hk : k < n) (w : World) : (Instr.indexAt 22 (.slice (some ⟨b, o, none⟩) n c) (.int .i64 k)).run Tryz.prog w = .ok (.pointer (some ⟨b, o + k * 4, none⟩)) w := by
  rw [run_indexAt_slice (h := by kernel_rfl), if_pos (by omega)]
  have hs : (sizeOf (Tryz.prog.elem 22)).run Tryz.prog w = .ok 4 w := by kernel_rfl
  rw [hs]
  simp only [Result.andThen, Int.toNat_natCast, add_none]
theorem loadOp {w : World} {b o : Nat} {v0 v1 v2 v3 : Value} (c0 : w.cell? ⟨b, o, none⟩ = some v0) (c1 : w.cell? ⟨b, o + 1, none⟩ = some v1) (c2 : w.cell? ⟨b, o + 2, none⟩ = some v2) (c3 : w.cell? ⟨b, o + 3, none⟩ = some v3) : (Instr.loadAt 38 (.pointer (some ⟨b, o, none⟩))).run Tryz.prog w = .ok (.agg #[v0, v1, v2, v3]) w := by
  refine run_loadAt_mid w b o 38 [v0, v1, v2, v3] _ ?_ Tryz.underlying38 rfl (by kernel_rfl)
  intro j v hj
  match j, hj with
  | 0, hj => rw [← hj]; exact c0
  | 1, hj => rw [← hj]; exact c1
  | 2, hj => rw [← hj]; exact c2
  | 3, hj => rw [← hj]; exact c3
def FewO (l : List JOp) : Prop := l.length ≤ 25 ∧ ∀ x ∈ l, x.s.length ≤ 200 ∧ x.keep.length ≤ 50
section
variable {w w1 : World} {K : Value → World → Prop}
set_option maxHeartbeats 1000000 in
theorem few_ok {N : Nat} {v : Value} {l : List JOp} (hr : OpRow N w v l) (hl : l.length ≤ 9223372036854775807) (k : ∀ t, (t = true → FewO l) → K (.bool t) w) : callM Tryz.prog 5 #[v] K w := by
  apply sh_5_ok
  unfold sh_5
  obtain ⟨va, vc, hv⟩ := hr.len
  rw [hv] at hr ⊢
  refine ⟨fun l' w' => w' = w ∧ ∃ (u : Value) (i : Nat), l' = [u, .int .i64 (i : Int)] ∧ i ≤ l.length ∧ ∀ x ∈ l.take i, x.s.length ≤ 200 ∧ x.keep.length ≤ 50, fun l' _ => match l' with | [_, .int _ m] => ((l.length : Int) - m).toNat | _ => 0, ⟨rfl, _, 0, rfl, by omega, by simp⟩, ?_⟩
  rintro l' u w1 ⟨rfl, u1, i, rfl, hi, hpre⟩
  simp only [List.getD_cons_zero, List.getD_cons_succ]
  by_cases hlt : i < l.length
  · obtain ⟨b, o, c, vk, he, hrk, hcs, c0, c1, c2, c3⟩ := hr.at hlt
    cases he
    have hix := idxOp (b := b) (o := o) (c := vc) hlt w1
    obtain ⟨ad, kc, rfl, _⟩ := hrk
    have fin : l[i].s.length ≤ 200 → l[i].keep.length ≤ 50 → ∀ x ∈ l.take (i + 1), x.s.length ≤ 200 ∧ x.keep.length ≤ 50 := by
      intro h1 h2 x hx
      rw [List.take_succ_eq_append_getElem hlt] at hx
      rcases List.mem_append.1 hx with hx | hx
      · exact hpre x hx
      · simp only [List.mem_singleton] at hx
        rw [hx]; exact ⟨h1, h2⟩
    simp only [bsV] at c1
    by_cases h1 : l[i].s.length ≤ 200
    · by_cases h2 : l[i].keep.length ≤ 50
      · have hfin := fin h1 h2
        have h1' : ¬ (200 : Int) < (l[i].s.length : Int) := by omega
        have h2' : ¬ (50 : Int) < (l[i].keep.length : Int) := by omega
        repeat (any_goals (first
        | (with_reducible first|refine pureM_in ?_|((refine idGd ?_); refine zC ?_)|((refine idPick ?_); refine yC ?_)|((refine idCond ?_); first|refine yM ?_|refine yN ?_))
        | ((with_reducible refine idO ?_); (with_reducible refine oM_gen fun Kv hK=>?_); simp [go_sem, hix, c0, c1, c2, c3, h1', h2']; (try simp (disch := omega) only [wrapI64, wrapU8, wrapU32, wrapU64]); refine hK _ _ ?_; clear hK; clear Kv)))
        refine ⟨⟨rfl, _, i + 1, rfl, hlt, hfin⟩, ?_⟩
        show ((l.length : Int) - ((i : Int) + 1)).toNat < ((l.length : Int) - (i : Int)).toNat
        omega
      · repeat (any_goals (first
        | (with_reducible first|refine pureM_in ?_|((refine idGd ?_); ((refine idGdD ?_); refine zI ?_))|((refine idPick ?_); refine yE ?_)|((refine idCond ?_); refine yN ?_))
        | ((with_reducible refine idO ?_); (with_reducible refine oM_gen fun Kv hK=>?_); simp [go_sem, hix, c0, c1, c2, c3]; refine hK _ _ ?_; clear hK; clear Kv)))
        exact k false (fun h => by cases h)
    · repeat (any_goals (first
      | (with_reducible first|((refine idGd ?_); ((refine idGdD ?_); refine zJ ?_))|((refine idPick ?_); refine yD ?_)|((refine idCond ?_); first|refine yL ?_|refine yN ?_))
      | ((with_reducible refine idO ?_); (with_reducible refine oM_gen fun Kv hK=>?_); simp [go_sem, hix, c0, c1, c2, c3]; refine hK _ _ ?_; clear hK; clear Kv)))
      exact k false (fun h => by cases h)
  · repeat (any_goals (first
    | (with_reducible ((refine idCond ?_); refine yO ?_))
    | ((with_reducible refine idO ?_); (with_reducible refine oM_gen fun Kv hK=>?_); simp [go_sem]; refine hK _ _ ?_; clear hK; clear Kv)))
    refine k _ (fun h => ⟨by simp at h; omega, ?_⟩)
    rw [List.take_of_length_le (by omega)] at hpre
    exact hpre
end
section
variable {w w0 W W' : World} {g : Nat} {K : Value → World → Prop}
def opC (k : Int) (t : Bs) (n : Int) (vk : Value) : List Value := [.int .i64 k, bsV t, .int .i64 n, vk]
theorem op_cells {k n : Int} {t : Bs} {vk : Value} (hh : Holds W g 38 (opC k t n vk)) : W.cell? ⟨g, 0, none⟩ = some (.int .i64 k) ∧ W.cell? ⟨g, 1, none⟩ = some (.string ⟨t.toArray⟩) ∧ W.cell? ⟨g, 2, none⟩ = some (.int .i64 n) ∧ W.cell? ⟨g, 3, none⟩ = some vk :=
  ⟨hh.cell 0 (by simp [opC]), hh.cell 1 (by simp [opC]), hh.cell 2 (by simp [opC]), hh.cell 3 (by simp [opC])⟩
theorem sz_op (w : World) : (sizeOf 38).run Tryz.prog w = .ok 4 w := by kernel_rfl
theorem al_op (w : World) : (Instr.alloc 38 true (.tuple #[])).run Tryz.prog w = .ok (.pointer (some ⟨w.heap.size, 0, none⟩)) (w.alloc (.cells (opC 0 [] 0 (.slice none 0 0)).toArray 38)) := by kernel_rfl
theorem op_one {k n : Int} {s : Bs} {ad : Option Addr} {m c : Nat} : ∀ u ∈ opC k s n (.slice ad m c), u.oneCell' = true := by
  intro u hu
  simp only [opC, List.mem_cons, List.not_mem_nil, or_false] at hu
  rcases hu with rfl | rfl | rfl | rfl <;> rfl
theorem RowN.mono {α : Type} {mk : α → List Value} {N N' : Nat} {w : World} {v : Value} {l : List α} (h : RowN mk N w v l) (hN : N ≤ N') : RowN mk N' w v l := by
  obtain ⟨ad, c, h1, h2, h3⟩ := h
  exact ⟨ad, c, h1, h2, h3.imp id (fun ⟨b, o, h4, h5, h6⟩ => ⟨b, o, h4, by omega, h6⟩)⟩
theorem OpCells.mono {N N' : Nat} {w : World} {cs : List Value} {x : JOp} (h : OpCells N w cs x) (hN : N ≤ N') : OpCells N' w cs x := by
  obtain ⟨vk, h1, h2⟩ := h.row
  exact ⟨⟨vk, h1, h2.mono hN⟩, h.kin, h.nin, h.kr⟩
theorem OpRow.mono {N N' : Nat} {w : World} {v : Value} {l : List JOp} (h : OpRow N w v l) (hN : N ≤ N') : OpRow N' w v l := by
  obtain ⟨ad, c, h1, h2⟩ := h
  refine ⟨ad, c, h1, h2.imp id ?_⟩
  rintro ⟨b, o, h3, h4, h5⟩
  refine ⟨b, o, h3, by omega, fun i hi => ?_⟩
  obtain ⟨cs, h6, h7, h8⟩ := h5 i hi
  exact ⟨cs, h6.mono hN, h7, h8⟩
end
end Go.Proofs
namespace Go.Proofs
open Go Go.Sh Go.RowKit CodeSpec JnSpec DkSpec
set_option linter.unusedSimpArgs false
set_option linter.unusedVariables false
set_option maxRecDepth 10000
def NoK : Nat → Prop := fun _ => False
def LB (w0 : World) (b rb : Nat) (vs : List Value) (W : World) : Prop :=
  ∃ O1 O2 A h hr jo, ∃ x : Int, PS w0 W NoK O1 O2 b A h jo (vs.getD 7 undef) rb A hr jo (vs.getD 8 undef) ∧ vs.getD 2 undef = .int .i64 x ∧ vs.getD 3 undef = .int .i64 x
section
variable {w : World} {K : Value → World → Prop}
@[go_sem] theorem nilR (T : TypeId) (a : Addr) : oM Tryz.prog (.binOp .eql 33 (.tmp 0) (.const (.pointer none)) 33) T [.pointer (some a)] K w = K (.bool false) w := by
  refine propext ⟨fun h => h, fun h => h⟩
@[go_sem] theorem nilRn (T : TypeId) : oM Tryz.prog (.binOp .eql 33 (.tmp 0) (.const (.pointer none)) 33) T [.pointer none] K w = K (.bool true) w := by
  refine propext ⟨fun h => h, fun h => h⟩
@[go_sem] theorem nneR (T : TypeId) (a : Addr) : oM Tryz.prog (.binOp .neq 33 (.tmp 0) (.const (.pointer none)) 33) T [.pointer (some a)] K w = K (.bool true) w := by
  refine propext ⟨fun h => h, fun h => h⟩
@[go_sem] theorem nneRn (T : TypeId) : oM Tryz.prog (.binOp .neq 33 (.tmp 0) (.const (.pointer none)) 33) T [.pointer none] K w = K (.bool false) w := by
  refine propext ⟨fun h => h, fun h => h⟩
@[go_sem] theorem nneJ (T : TypeId) (a : Addr) : oM Tryz.prog (.binOp .neq 29 (.tmp 0) (.const (.pointer none)) 29) T [.pointer (some a)] K w = K (.bool true) w := by
  refine propext ⟨fun h => h, fun h => h⟩
@[go_sem] theorem nneJn (T : TypeId) : oM Tryz.prog (.binOp .neq 29 (.tmp 0) (.const (.pointer none)) 29) T [.pointer none] K w = K (.bool false) w := by
  refine propext ⟨fun h => h, fun h => h⟩
end
section
variable {w0 W W' : World} {Kp Kp' O1 O2 : Nat → Prop} {b rb : Nat} {A A1 A2 A1' A2' : Ab} {h h' : Dk} {hr hr' : Rh} {j : Jn} {jo1 jo2 jo1' jo2' : Option Jn} {jv kv jv' kv' : Value} {K : Value → World → Prop}
theorem post33_ok {l34 : List Value} {M : List Value → World → Prop} (hM : ∀ vs W, LB w0 b rb vs W → M vs W) (L : LB w0 b rb l34 W) : post_3_33 K M l34 W := by
  obtain ⟨O1, O2, A, h, hr, jo, x, P, e2, e3⟩ := L
  unfold post_3_33
  have fin : ∀ {v0 v1 v4 v5 v6 : Value} {W'}, Below W.heap.size W W' → M [v0, v1, .int .i64 x, .int .i64 x, v4, v5, v6, l34.getD 7 undef, l34.getD 8 undef] W' := fun {v0 v1 v4 v5 v6 W'} hb => hM _ _ ⟨O1, O2, A, h, hr, jo, x, P.below hb, rfl, rfl⟩
  rw [e2, e3]
  cases jo with
  | none =>
    have e7 : l34.getD 7 undef = .pointer none := P.j1
    have e8 : l34.getD 8 undef = .pointer none := P.j2
    rw [e7, e8] at fin
    rw [e7, e8]
    repeat (any_goals (first
    | (with_reducible first|refine pureM_in ?_|((refine idGd ?_); refine zC ?_)|((refine idPick ?_); refine yC ?_)|((refine idCond ?_); refine yM ?_))
    | ((with_reducible refine idO ?_); (with_reducible refine oM_gen fun Kv hK=>?_); simp [go_sem]; refine hK _ _ ?_; clear hK; clear Kv)))
    unfold held_3_107
    rw [e2, e3, e7, e8]
    refine ⟨Nx { W with drawn := W.drawn + 1 }, Below.refl _ _, rfl, ?_⟩
    have h3 : Nx W { W with drawn := W.drawn + 1 } := ((Below.refl _ _).drew)
    generalize ({ W with drawn := W.drawn + 1 } : World) = W3 at h3 ⊢
    repeat (first | (with_reducible refine pureH_in ?_) | (with_reducible refine oH_nil ?_) | (with_reducible refine gdH_true rfl ?_) | (with_reducible refine gdH_false rfl ?_) | (refine oH_of ⟨_, rfl⟩ (fun W0 hW0 => by (refine oM_gen (fun Kv hK => ?_)); simp [go_sem]; (first | exact hK _ _ ⟨rfl, rfl⟩ | exact ⟨by omega, hK _ _ ⟨rfl, rfl⟩⟩)) ?_))
    refine pickH ?_
    repeat (first | (with_reducible refine pureH_in ?_) | (with_reducible refine oH_nil ?_) | (with_reducible refine gdH_true rfl ?_) | (with_reducible refine gdH_false rfl ?_) | (refine oH_of ⟨_, rfl⟩ (fun W0 hW0 => by (refine oM_gen (fun Kv hK => ?_)); simp [go_sem]; (first | exact hK _ _ ⟨rfl, rfl⟩ | exact ⟨by omega, hK _ _ ⟨rfl, rfl⟩⟩)) ?_))
    refine ⟨Nx, ?_⟩
    refine monoR (fun _ _ => True) (fun _ _ _ _ _ => trivial) (fun w4 h4 => ⟨h4, Below.refl _ _, trivial⟩) ?_
    intro w4 h4 v _
    simp only [cond_false]
    repeat (any_goals (with_reducible first|((refine idGd ?_); refine zB ?_)|((refine idPick ?_); refine yC ?_)|((refine idCond ?_); refine yM ?_)))
    exact fin (h3.trans (h4.mono h3.size))
  | some j =>
    obtain ⟨p, u, e7, jn, ho⟩ := P.j1
    obtain ⟨q, lv, e8, jr, hor⟩ := P.j2
    rw [e7, e8] at fin
    rw [e7, e8]
    repeat (any_goals (first
    | (with_reducible first|refine pureM_in ?_|((refine idGd ?_); refine zC ?_)|((refine idPick ?_); refine yC ?_)|((refine idCond ?_); refine yM ?_))
    | ((with_reducible refine idO ?_); (with_reducible refine oM_gen fun Kv hK=>?_); simp [go_sem]; refine hK _ _ ?_; clear hK; clear Kv)))
    unfold held_3_107
    rw [e2, e3, e7, e8]
    refine ⟨Nx { W with drawn := W.drawn + 1 }, Below.refl _ _, rfl, ?_⟩
    have h3 : Nx W { W with drawn := W.drawn + 1 } := ((Below.refl _ _).drew)
    have jn3 := jn.below h3
    have jr3 := jr.below h3
    generalize ({ W with drawn := W.drawn + 1 } : World) = W3 at h3 jn3 jr3 ⊢
    repeat (first | (with_reducible refine pureH_in ?_) | (with_reducible refine oH_nil ?_) | (with_reducible refine gdH_true rfl ?_) | (with_reducible refine gdH_false rfl ?_) | (refine oH_of ⟨_, rfl⟩ (fun W0 hW0 => by (refine oM_gen (fun Kv hK => ?_)); simp [go_sem, (jr3.below hW0).c]; (first | exact hK _ _ ⟨rfl, rfl⟩ | exact ⟨by omega, hK _ _ ⟨rfl, rfl⟩⟩)) ?_))
    refine pickH ?_
    repeat (first | (with_reducible refine pureH_in ?_) | (with_reducible refine oH_nil ?_) | (with_reducible refine gdH_true rfl ?_) | (with_reducible refine gdH_false rfl ?_) | (refine oH_of ⟨_, rfl⟩ (fun W0 hW0 => by (refine oM_gen (fun Kv hK => ?_)); simp [go_sem, (jr3.below hW0).c]; (first | exact hK _ _ ⟨rfl, rfl⟩ | exact ⟨by omega, hK _ _ ⟨rfl, rfl⟩⟩)) ?_))
    refine ⟨Nx, ?_⟩
    refine monoR (fun v w => w.ownsRow 0 9 1 v j.recs.length (j.recs.map Cd.strV)) (fun v w w1 hS hv => row_below hv hS) (fun w4 h4 => ?_) ?_
    · skip
      exact all_ok (jn3.below h4) (fun v w5 ho5 b5 => ⟨h4.trans (b5.mono h4.size), b5, owns_zero ho5⟩)
    intro w4 h4 v hv
    have jr4 := jr3.below h4
    have hl := jr.len
    simp only [cond_true]
    repeat (any_goals (with_reducible ((refine idGd ?_); refine zA ?_)))
    refine Cd.sameTexts_ok _ _ _ _ (Cd.RowOf.of_owns hv) (Cd.RowOf.of_owns jr4.row) (by omega) (by omega) (fun w5 b5 => ?_)
    simp only [decide_true]
    repeat (any_goals (first
    | (with_reducible first|((refine idGd ?_); refine zA ?_)|((refine idPick ?_); refine yB ?_)|((refine idCond ?_); refine yM ?_))
    | ((with_reducible refine idO ?_); (with_reducible refine oM_gen fun Kv hK=>?_); simp [go_sem]; refine hK _ _ ?_; clear hK; clear Kv)))
    exact fin (h3.trans ((h4.trans (b5.mono h4.size)).mono h3.size))
end
end Go.Proofs
namespace Go.Proofs
open Go Go.Sh Go.RowKit CodeSpec JnSpec DkSpec
set_option linter.unusedSimpArgs false
set_option linter.unusedVariables false
set_option maxRecDepth 10000
def KG (g : Nat) : Nat → Prop := fun k => k = g
section
variable {w0 W W' : World} {Kp Kp' O1 O2 : Nat → Prop} {b rb g : Nat} {A A1 A2 A1' A2' : Ab} {h h' : Dk} {hr hr' : Rh} {j : Jn} {jo jo1 jo2 jo1' jo2' : Option Jn} {jv kv jv' kv' : Value} {K : Value → World → Prop}
theorem PS.noK (P : PS w0 W Kp O1 O2 b A1 h jo1 jv rb A2 hr jo2 kv) : PS w0 W NoK O1 O2 b A1 h jo1 jv rb A2 hr jo2 kv := P.fresh (Below.refl _ _) (fun k hk => hk.elim)
theorem holds_same {T : TypeId} {cs : List Value} (hh : Holds W g T cs) (hk : ∀ k, KG g k → W'.heap[k]? = W.heap[k]?) : Holds W' g T cs := by
  unfold Holds
  rw [hk g rfl]; exact hh
theorem disp_ok {l15 : List Value} {vk : Value} {x : JOp} {y : Int} {M18 M33 : List Value → World → Prop} (hM18 : ∀ vs W, LB w0 b rb vs W → M18 vs W) (hM33 : ∀ vs W, LB w0 b rb vs W → M33 vs W) (h6 : 6 ≤ w0.heap.size)
    (P : PS w0 W (KG g) O1 O2 b A h jo (l15.getD 7 undef) rb A hr jo (l15.getD 8 undef)) (he1 : l15.getD 2 undef = .int .i64 y) (he2 : l15.getD 3 undef = .int .i64 y)
    (hh : Holds W g 38 (opC x.k x.s x.n vk)) (hc : OpCells w0.heap.size W (opC x.k x.s x.n vk) x) (ht : x.s.length ≤ 200 ∧ x.keep.length ≤ 50) :
    pre_3_33 K M18 l15 (ptr g 0) (dkP b) (dkP rb) M33 W := by
  unfold pre_3_33
  obtain ⟨c0, c1, c2, c3⟩ := op_cells hh
  obtain ⟨vk', hvk, hrow⟩ := hc.row
  simp only [opC, List.cons.injEq, and_true, true_and] at hvk
  subst hvk
  have hz := P.bl.size
  have hkr : ∀ y ∈ x.keep, -2 ^ 63 ≤ y ∧ y < 2 ^ 63 := hc.kr
  have hn := hc.nin.2
  have hrowB : ∀ {W'}, Below w0.heap.size W W' → RowR intC 1 W' vk x.keep := fun hb => (hrow.below hb).row (Nat.le_trans hz hb.size)
  repeat (any_goals ((with_reducible refine idO ?_); (with_reducible refine oM_gen fun Kv hK=>?_); simp [go_sem, c0]; refine hK _ _ ?_; clear hK; clear Kv))
  by_cases k01 : x.k = 0 ∨ x.k = 1
  · refine ⟨fun l38 W' => l38 = [.bool true] ∧ W = W', ?_, ?_⟩
    · rcases k01 with k0 | k1
      · repeat (any_goals (first
        | (with_reducible ((refine idCond ?_); refine yL ?_))
        | ((with_reducible refine idO ?_); (with_reducible refine oM_gen fun Kv hK=>?_); simp [go_sem, k0]; refine hK _ _ ?_; clear hK; clear Kv)))
        exact ⟨by simp [k0], rfl⟩
      · repeat (any_goals (first
        | (with_reducible ((refine idCond ?_); refine yM ?_))
        | ((with_reducible refine idO ?_); (with_reducible refine oM_gen fun Kv hK=>?_); simp [go_sem, k1]; refine hK _ _ ?_; clear hK; clear Kv)))
        exact ⟨by simp [k1], rfl⟩
    · rintro _ _ _ ⟨rfl, rfl⟩
      unfold post_3_37
      simp only [List.getD_cons_zero]
      cases jo with
      | none =>
        have e7 : l15.getD 7 undef = .pointer none := P.j1
        have e8 : l15.getD 8 undef = .pointer none := P.j2
        have P0 := P.noK
        rw [e7, e8, he1, he2] at *
        repeat (any_goals (first
        | (with_reducible first|((refine idGd ?_); refine zD ?_)|((refine idPick ?_); refine yB ?_)|((refine idCond ?_); first|refine yL ?_|refine yM ?_))
        | ((with_reducible refine idO ?_); (with_reducible refine oM_gen fun Kv hK=>?_); simp [go_sem]; refine hK _ _ ?_; clear hK; clear Kv)))
        exact hM18 _ _ ⟨O1, O2, A, h, hr, none, y, P0, rfl, rfl⟩
      | some j =>
        obtain ⟨p, u, e7, jn, ho⟩ := P.j1
        obtain ⟨q, lv, e8, jr, hor⟩ := P.j2
        rw [e7, e8] at P ⊢
        rcases k01 with k0 | k1
        · rw [k0] at c0
          repeat (any_goals (first
          | (with_reducible first|refine pureM_in ?_|((refine idGd ?_); refine zC ?_)|((refine idPick ?_); refine yC ?_)|((refine idCond ?_); first|refine yL ?_|refine yM ?_))
          | ((with_reducible refine idO ?_); (with_reducible refine oM_gen fun Kv hK=>?_); simp [go_sem, c0, c1]; refine hK _ _ ?_; clear hK; clear Kv)))
          refine P.append x.s (by omega) (fun W1 h1 O1' P1 hk1 hb1 => ?_)
          obtain ⟨d0, d1, d2, d3⟩ := op_cells (holds_same hh hk1)
          repeat (any_goals ((with_reducible refine idO ?_); (with_reducible refine oM_gen fun Kv hK=>?_); simp [go_sem, d0, d1]; refine hK _ _ ?_; clear hK; clear Kv))
          refine P1.appendR h6 x.s (by omega) (fun W2 hr2 O2' P2 hk2 hb2 => ?_)
          exact hM33 _ _ ⟨O1', O2', _, h1, hr2, some (appendJ A 3 j x.s).2.2, _, P2.noK, rfl, rfl⟩
        · rw [k1] at c0
          repeat (any_goals (first
          | (with_reducible first|refine pureM_in ?_|((refine idGd ?_); refine zC ?_)|((refine idPick ?_); refine yC ?_)|((refine idCond ?_); first|refine yL ?_|refine yM ?_))
          | ((with_reducible refine idO ?_); (with_reducible refine oM_gen fun Kv hK=>?_); simp [go_sem, c0]; refine hK _ _ ?_; clear hK; clear Kv)))
          refine P.sync (fun W1 h1 O1' P1 hk1 hb1 => ?_)
          refine P1.syncR h6 (fun W2 hr2 O2' P2 hk2 hb2 => ?_)
          exact hM33 _ _ ⟨O1', O2', _, h1, hr2, some (syncJ A 3 j).2.2, _, P2.noK, rfl, rfl⟩
  have k0 : ¬ x.k = 0 := fun e => k01 (.inl e)
  have k1 : ¬ x.k = 1 := fun e => k01 (.inr e)
  refine ⟨fun l38 W' => l38 = [.bool false] ∧ W = W', ?_, ?_⟩
  · repeat (any_goals (first
    | (with_reducible ((refine idCond ?_); refine yO ?_))
    | ((with_reducible refine idO ?_); (with_reducible refine oM_gen fun Kv hK=>?_); simp [go_sem]; refine hK _ _ ?_; clear hK; clear Kv)))
    exact ⟨by simp [k1], rfl⟩
  · rintro _ _ _ ⟨rfl, rfl⟩
    unfold post_3_37
    simp only [List.getD_cons_zero]
    have same : ∀ {W' O1' O2' B h' hr'}, PS w0 W' (KG g) O1' O2' b B h' jo (l15.getD 7 undef) rb B hr' jo (l15.getD 8 undef) → ∀ {v0 v1 v4 v5 v6 : Value}, M33 [v0, v1, l15.getD 2 undef, l15.getD 3 undef, v4, v5, v6, l15.getD 7 undef, l15.getD 8 undef] W' := fun {W' O1' O2' B h' hr'} P' {v0 v1 v4 v5 v6} =>
      hM33 _ _ ⟨O1', O2', B, h', hr', jo, y, P'.noK, he1, he2⟩
    by_cases k2 : x.k = 2
    · rw [k2] at *
      repeat (any_goals (first
      | (with_reducible ((refine idCond ?_); first|refine yL ?_|refine yM ?_))
      | ((with_reducible refine idO ?_); (with_reducible refine oM_gen fun Kv hK=>?_); simp [go_sem, c0, c2]; refine hK _ _ ?_; clear hK; clear Kv)))
      refine lose_ok P.s.d x.n hn (fun W1 d1 t1 => ?_)
      obtain ⟨P1, hk1, hb1⟩ := P.disk d1 t1
      obtain ⟨e0, e1, e2, e3⟩ := op_cells (holds_same hh hk1)
      repeat (any_goals ((with_reducible refine idO ?_); (with_reducible refine oM_gen fun Kv hK=>?_); simp [go_sem, e2]; refine hK _ _ ?_; clear hK; clear Kv))
      refine rlose_ok P1.r x.n hn (fun W2 d2 t2 => ?_)
      obtain ⟨P2, hk2, hb2⟩ := P1.diskR h6 d2 t2
      skip
      exact same P2
    by_cases k3 : x.k = 3
    · rw [k3] at *
      repeat (any_goals (first
      | (with_reducible ((refine idCond ?_); first|refine yL ?_|refine yM ?_))
      | ((with_reducible refine idO ?_); (with_reducible refine oM_gen fun Kv hK=>?_); simp [go_sem, c0, c2, c3]; refine hK _ _ ?_; clear hK; clear Kv)))
      refine arm_ok P.s.d x.n hn (hrowB (Below.refl _ _)) (by omega) hkr (fun W1 h1 d1 t1 => ?_)
      obtain ⟨P1, hk1, hb1⟩ := P.disk d1 t1
      obtain ⟨e0, e1, e2, e3⟩ := op_cells (holds_same hh hk1)
      repeat (any_goals ((with_reducible refine idO ?_); (with_reducible refine oM_gen fun Kv hK=>?_); simp [go_sem, e2, e3]; refine hK _ _ ?_; clear hK; clear Kv))
      refine rarm_ok P1.r x.n hn (hrowB hb1) (fun W2 f2 => hrowB (hb1.trans ⟨f2.os, f2.tape, f2.output, f2.size, fun i hi => f2.block i (by have := P1.bl.size; omega) (fun ho => by have := (P1.n i (.inr (P1.i2 i ho))).1; omega)⟩)) (by omega) hkr (fun W2 hr2 d2 t2 => ?_)
      obtain ⟨P2, hk2, hb2⟩ := P1.diskR h6 d2 t2
      skip
      exact same P2
    by_cases k45 : x.k = 4 ∨ x.k = 5
    · have key : ∀ {l82 : List Value} {v84 v94 v78 : Value} {W1 B h1 hr1 O1' O2'}, PS w0 W1 (KG g) O1' O2' b B h1 jo (l15.getD 7 undef) rb B hr1 jo (l15.getD 8 undef) → post_3_81 M33 l15 [.bool false] [v78] (dkP b) (dkP rb) v84 v94 l82 W1 := by
        intro l82 v84 v94 v78 W1 B h1 hr1 O1' O2' P1
        unfold post_3_81
        refine start_ok P1.s.d (fun W2 d2 t2 => ?_)
        obtain ⟨P2, _, _⟩ := P1.disk d2 t2
        refine rstart_ok P2.r (fun W3 d3 t3 => ?_)
        obtain ⟨P3, _, _⟩ := P2.diskR h6 d3 t3
        refine P3.open (fun W4 h4 O14 jv4 P4 _ _ => ?_)
        repeat (any_goals ((with_reducible refine idO ?_); (with_reducible refine oM_gen fun Kv hK=>?_); simp [go_sem]; refine hK _ _ ?_; clear hK; clear Kv))
        refine P4.openR h6 (fun W5 hr5 O25 kv5 P5 _ _ => ?_)
        repeat (any_goals ((with_reducible refine idO ?_); (with_reducible refine oM_gen fun Kv hK=>?_); simp [go_sem]; refine hK _ _ ?_; clear hK; clear Kv))
        exact hM33 _ _ ⟨_, O25, _, h4, hr5, _, _, P5.noK, rfl, rfl⟩
      have tail : x.k = 4 ∨ x.k = 5 → ∀ {v84 v94 : Value}, post_3_77 M33 l15 [.bool false] (ptr g 0) (dkP b) (dkP rb) v84 v94 [.bool true] W := by
        intro k45 v84 v94
        unfold post_3_77
        simp only [List.getD_cons_zero]
        repeat (any_goals (with_reducible ((refine idCond ?_); refine yL ?_)))
        refine ⟨fun l82 W1 => ∃ B h1 hr1 O1' O2', PS w0 W1 (KG g) O1' O2' b B h1 jo (l15.getD 7 undef) rb B hr1 jo (l15.getD 8 undef), ?_, ?_⟩
        · unfold pre_3_81
          rcases k45 with k4 | k5
          · rw [k4] at c0
            repeat (any_goals (first
            | (with_reducible ((refine idCond ?_); refine yL ?_))
            | ((with_reducible refine idO ?_); (with_reducible refine oM_gen fun Kv hK=>?_); simp [go_sem, c0, c3]; refine hK _ _ ?_; clear hK; clear Kv)))
            refine crash_ok P.s.d (hrowB (Below.refl _ _)) (by omega) (fun W1 f1 => hrowB ⟨f1.os, f1.tape, f1.output, f1.size, fun i hi => f1.block i (by omega) (fun ho => by have := (P.n i (.inl (P.i1 i ho))).1; omega)⟩) (fun W1 h1 d1 t1 => ?_)
            obtain ⟨P1, hk1, hb1⟩ := P.disk d1 t1
            obtain ⟨e0, e1, e2, e3⟩ := op_cells (holds_same hh hk1)
            repeat (any_goals ((with_reducible refine idO ?_); (with_reducible refine oM_gen fun Kv hK=>?_); simp [go_sem, e3]; refine hK _ _ ?_; clear hK; clear Kv))
            refine rcrash_ok P1.r (kl := x.keep) (by omega) (fun W2 f2 => hrowB (hb1.trans ⟨f2.os, f2.tape, f2.output, f2.size, fun i hi => f2.block i (by have := P1.bl.size; omega) (fun ho => by have := (P1.n i (.inr (P1.i2 i ho))).1; omega)⟩)) (fun W2 hr2 d2 t2 => ?_)
            obtain ⟨P2, hk2, hb2⟩ := P1.diskR h6 d2 t2
            skip
            exact ⟨_, _, _, _, _, P2⟩
          · rw [k5] at c0
            repeat (any_goals (first
            | (with_reducible ((refine idCond ?_); refine yM ?_))
            | ((with_reducible refine idO ?_); (with_reducible refine oM_gen fun Kv hK=>?_); simp [go_sem, c0]; refine hK _ _ ?_; clear hK; clear Kv)))
            exact ⟨_, _, _, _, _, P⟩
        · rintro l82 _ W1 ⟨B, h1, hr1, O1', O2', P1⟩
          exact key P1
      rcases k45 with k4 | k5
      · rw [k4]
        repeat (any_goals (first
        | (with_reducible ((refine idCond ?_); refine yM ?_))
        | ((with_reducible refine idO ?_); (with_reducible refine oM_gen fun Kv hK=>?_); simp [go_sem]; refine hK _ _ ?_; clear hK; clear Kv)))
        refine ⟨fun l78 W1 => l78 = [.bool true] ∧ W = W1, ?_, ?_⟩
        · repeat (any_goals (first
          | (with_reducible ((refine idCond ?_); refine yL ?_))
          | ((with_reducible refine idO ?_); (with_reducible refine oM_gen fun Kv hK=>?_); simp [go_sem]; refine hK _ _ ?_; clear hK; clear Kv)))
          exact ⟨rfl, rfl⟩
        · rintro _ _ _ ⟨rfl, rfl⟩
          exact tail (.inl k4)
      · rw [k5]
        repeat (any_goals (first
        | (with_reducible ((refine idCond ?_); refine yM ?_))
        | ((with_reducible refine idO ?_); (with_reducible refine oM_gen fun Kv hK=>?_); simp [go_sem]; refine hK _ _ ?_; clear hK; clear Kv)))
        refine ⟨fun l78 W1 => l78 = [.bool true] ∧ W = W1, ?_, ?_⟩
        · repeat (any_goals (first
          | (with_reducible ((refine idCond ?_); refine yM ?_))
          | ((with_reducible refine idO ?_); (with_reducible refine oM_gen fun Kv hK=>?_); simp [go_sem]; refine hK _ _ ?_; clear hK; clear Kv)))
          exact ⟨rfl, rfl⟩
        · rintro _ _ _ ⟨rfl, rfl⟩
          exact tail (.inr k5)
    · have k4 : ¬ x.k = 4 := fun e => k45 (.inl e)
      have k5 : ¬ x.k = 5 := fun e => k45 (.inr e)
      repeat (any_goals (first
      | (with_reducible ((refine idCond ?_); first|refine yM ?_|refine yO ?_))
      | ((with_reducible refine idO ?_); (with_reducible refine oM_gen fun Kv hK=>?_); simp [go_sem, c0]; refine hK _ _ ?_; clear hK; clear Kv)))
      refine ⟨fun l78 W1 => l78 = [.bool false] ∧ W = W1, ?_, ?_⟩
      · repeat (any_goals (first
        | (with_reducible ((refine idCond ?_); refine yO ?_))
        | ((with_reducible refine idO ?_); (with_reducible refine oM_gen fun Kv hK=>?_); simp [go_sem]; refine hK _ _ ?_; clear hK; clear Kv)))
        exact ⟨by simp [k5], rfl⟩
      · rintro _ _ _ ⟨rfl, rfl⟩
        unfold post_3_77
        simp only [List.getD_cons_zero]
        repeat (any_goals (with_reducible ((refine idCond ?_); refine yM ?_)))
        exact same P
end
end Go.Proofs
namespace Go.Proofs
open Go Go.Sh Go.RowKit CodeSpec JnSpec DkSpec
set_option linter.unusedSimpArgs false
set_option linter.unusedVariables false
set_option maxRecDepth 10000
attribute [local go_sem] oM_indexAddr
section
variable {w w0 W W' : World} {Kp Kp' O1 O2 : Nat → Prop} {b rb g i : Nat} {A A1 A2 A1' A2' : Ab} {h h' : Dk} {hr hr' : Rh} {j : Jn} {jo jo1 jo2 jo1' jo2' : Option Jn} {jv kv jv' kv' : Value} {K : Value → World → Prop}
theorem turn_ok {l : List JOp} {l15 : List Value} {a0 : Value} {M : List Value → World → Prop} (hM : ∀ vs W, LB w0 b rb vs W → M vs W) (h6 : 6 ≤ w0.heap.size)
    (L : LB w0 b rb l15 W) (hi : i < l.length) (hl : FewO l) (ho : OpRow w0.heap.size w0 a0 l) (hiv : l15.getD 9 undef = .int .i64 (i : Int)) :
    pre_3_18 K a0 l15 (dkP b) (dkP rb) M W := by
  obtain ⟨O1, O2, A, h, hr, jo, y, P, he1, he2⟩ := L
  unfold pre_3_18
  have ho1 := ho.below P.bl
  obtain ⟨bb, o, c, vk, rfl, hrk, hcs, c0, c1, c2, c3⟩ := ho1.at hi
  have hix := idxOp (b := bb) (o := o) (c := c) hi W
  have hld := loadOp c0 c1 c2 c3
  rw [hiv]
  repeat (any_goals ((with_reducible refine idO ?_); (with_reducible refine oM_gen fun Kv hK=>?_); simp [go_sem, hix]; refine hK _ _ ?_; clear hK; clear Kv))
  rw [oM_load, hld, rM_ok]
  obtain ⟨ad', c', rfl, _⟩ := id hrk
  refine arr_alloc al_op (fun g W1 b1 hg1 hh1 => ?_)
  refine arr_store sz_op (x := .agg #[.int .i64 l[i].k, bsV l[i].s, .int .i64 l[i].n, .slice ad' l[i].keep.length c']) (xs := opC l[i].k l[i].s l[i].n (.slice ad' l[i].keep.length c')) rfl rfl op_one hh1 rfl (fun W2 hg2 hh2 => ?_)
  have b2 : Below W.heap.size W W2 := grown_below b1 hg2 hg1
  have P2 : PS w0 W2 (KG g) O1 O2 b A h jo (l15.getD 7 undef) rb A hr jo (l15.getD 8 undef) := P.fresh b2 (fun k hk => .inr ⟨by cases hk; exact hg1, by cases hk; exact hh2.lt⟩)
  have hx := hl.2 _ (List.getElem_mem hi)
  have hcs2 := hcs.below (b2.mono P.bl.size)
  unfold held_3_23
  refine ⟨Nx { W2 with drawn := W2.drawn + 1 }, Below.refl _ _, rfl, ?_⟩
  have h3 : Nx W2 { W2 with drawn := W2.drawn + 1 } := ((Below.refl _ _).drew)
  have P3 := P2.below h3
  have hh3 := hh2.next h3
  have hcs3 := hcs2.below (h3.mono P2.bl.size)
  generalize ({ W2 with drawn := W2.drawn + 1 } : World) = W3 at h3 P3 hh3 hcs3 ⊢
  repeat (first | (with_reducible refine pureH_in ?_) | (with_reducible refine oH_nil ?_) | (with_reducible refine gdH_true rfl ?_) | (with_reducible refine gdH_false rfl ?_) | (refine oH_of ⟨_, rfl⟩ (fun W0 hW0 => by (refine oM_gen (fun Kv hK => ?_)); simp [go_sem, op_cells (hh3.next hW0)]; (first | exact hK _ _ ⟨rfl, rfl⟩ | exact ⟨by omega, hK _ _ ⟨rfl, rfl⟩⟩)) ?_))
  refine ⟨Nx, ?_⟩
  refine monoE (x := .int .i64 (sumR l[i].s)) (fun w4 h4 => Sum_ok l[i].s (by omega) ⟨h4, Below.refl _ _, rfl⟩) ?_
  intro w4 h4 v e4
  subst e4
  refine rSum_ok l[i].s (by omega) ?_
  repeat (any_goals (first
  | (with_reducible ((refine idCond ?_); refine yM ?_))
  | ((with_reducible refine idO ?_); (with_reducible refine oM_gen fun Kv hK=>?_); simp [go_sem]; refine hK _ _ ?_; clear hK; clear Kv)))
  have P4 := P3.below h4
  refine ⟨fun vs W' => LB w0 b rb vs W', ?_, ?_⟩
  · exact disp_ok hM (fun _ _ h => h) h6 P4 he1 he2 (hh3.next h4) (hcs3.below (h4.mono P3.bl.size)) hx
  · rintro l34 _ W5 L5
    exact post33_ok hM L5
set_option maxHeartbeats 1000000 in
theorem journal_ok {l : List JOp} {a0 : Value} (hl : Cd.Laid w) (ho : OpRow w.heap.size w a0 l) (hll : l.length ≤ 9223372036854775807) (k : ∀ w', Below w.heap.size w w' → K (.bool true) w') : callM Tryz.prog 3 #[a0] K w := by
  apply sh_3_ok
  unfold sh_3
  refine sane_ok hl (fun w0 b0 => ?_)
  have h6 : 6 ≤ w0.heap.size := Nat.le_trans hl.size b0.size
  have ho0 : OpRow w0.heap.size w0 a0 l := (ho.below b0).mono b0.size
  refine few_ok ho0 hll (fun t hfew => ?_)
  cases t with
  | false =>
    repeat (any_goals (first
    | (with_reducible ((refine idCond ?_); refine yL ?_))
    | ((with_reducible refine idO ?_); (with_reducible refine oM_gen fun Kv hK=>?_); simp [go_sem]; refine hK _ _ ?_; clear hK; clear Kv)))
    exact k _ b0
  | true =>
    have hl0 := hfew rfl
    repeat (any_goals (first
    | (with_reducible ((refine idCond ?_); refine yM ?_))
    | ((with_reducible refine idO ?_); (with_reducible refine oM_gen fun Kv hK=>?_); simp [go_sem]; refine hK _ _ ?_; clear hK; clear Kv)))
    refine newSys_ok (hl.below b0 hl.size) (fun w1 b h1 s1 b1 o1 => ?_)
    refine rnew_ok (fun w2 rb hr2 r2 f2 or2 rd2 => ?_)
    have b2 : Below w1.heap.size w1 w2 := below_none f2
    have P2 : PS w0 w2 NoK (fun i => w0.heap.size ≤ i ∧ i < w1.heap.size) (fun i => w1.heap.size ≤ i ∧ i < w2.heap.size) b newA h1 none (.pointer none) rb newA hr2 none (.pointer none) :=
      ⟨s1.below b2, r2, rfl, rfl, fun i hi => ⟨o1 i hi, s1.d.lt (.inl hi)⟩, fun i hi => ⟨or2 i hi, r2.lt (.inl hi)⟩, fun i hi ho => by have := s1.d.lt (.inr hi); omega, fun i hi => absurd hi (rd2 i), fun i hi => by have := b1.size; have := b2.size; omega, fun i hi ho => by omega, fun k hk => hk.elim, b1.trans (b2.mono b1.size)⟩
    repeat (any_goals (first
    | (with_reducible ((refine idCond ?_); refine yM ?_))
    | ((with_reducible refine idO ?_); (with_reducible refine oM_gen fun Kv hK=>?_); simp [go_sem]; refine hK _ _ ?_; clear hK; clear Kv)))
    refine P2.open (fun w3 h3 O13 jv3 P3 _ _ => ?_)
    repeat (any_goals ((with_reducible refine idO ?_); (with_reducible refine oM_gen fun Kv hK=>?_); simp [go_sem]; refine hK _ _ ?_; clear hK; clear Kv))
    refine P3.openR h6 (fun w4 hr4 O24 kv4 P4 _ _ => ?_)
    repeat (any_goals ((with_reducible refine idO ?_); (with_reducible refine oM_gen fun Kv hK=>?_); simp [go_sem]; refine hK _ _ ?_; clear hK; clear Kv))
    refine ⟨fun vs W => ∃ i : Nat, vs.getD 9 undef = .int .i64 (i : Int) ∧ i ≤ l.length ∧ LB w0 b rb vs W, fun vs _ => match vs.getD 9 undef with | .int _ n => l.length - n.toNat | _ => 0, ⟨0, rfl, by omega, _, _, _, h3, hr4, _, _, P4, rfl, rfl⟩, ?_⟩
    rintro l15 _ W ⟨i, hiv, hi, hL⟩
    unfold loop_3_13
    obtain ⟨va, vc, hve⟩ := ho0.len
    subst hve
    have hl25 := hl0.1
    rw [hiv]
    by_cases hlt : i < l.length
    · repeat (any_goals (first
      | (with_reducible ((refine idCond ?_); refine yN ?_))
      | ((with_reducible refine idO ?_); (with_reducible refine oM_gen fun Kv hK=>?_); simp [go_sem]; refine hK _ _ ?_; clear hK; clear Kv)))
      refine ⟨fun vs W' => LB w0 b rb vs W', turn_ok (fun _ _ h => h) h6 hL hlt hl0 ho0 hiv, ?_⟩
      rintro l19 _ W' hL'
      unfold post_3_18
      rw [hiv]
      repeat (any_goals ((with_reducible refine idO ?_); (with_reducible refine oM_gen fun Kv hK=>?_); simp [go_sem]; (try simp (disch := omega) only [wrapI64, wrapU8, wrapU32, wrapU64]); refine hK _ _ ?_; clear hK; clear Kv))
      exact ⟨⟨i + 1, rfl, hlt, hL'⟩, by show _ < (match l15.getD 9 undef with | .int _ n => l.length - n.toNat | _ => 0); rw [hiv]; exact Nat.sub_lt_sub_left hlt (Nat.lt_succ_self i)⟩
    · obtain ⟨O1, O2, A, h, hr, jo, y, P, he1, he2⟩ := hL
      repeat (any_goals (first
      | (with_reducible ((refine idCond ?_); refine yO ?_))
      | ((with_reducible refine idO ?_); (with_reducible refine oM_gen fun Kv hK=>?_); simp [go_sem]; refine hK _ _ ?_; clear hK; clear Kv)))
      refine start_ok P.s.d (fun W2 d2 t2 => ?_)
      obtain ⟨P2, _, _⟩ := P.disk d2 t2
      refine rstart_ok P2.r (fun W3 d3 t3 => ?_)
      obtain ⟨P3, _, _⟩ := P2.diskR h6 d3 t3
      refine size_ok P3.s.d 3 ?_
      refine read_ok P3.s.d 3 0 _ ?_
      repeat (any_goals ((with_reducible refine idO ?_); (with_reducible refine oM_gen fun Kv hK=>?_); simp [go_sem]; refine hK _ _ ?_; clear hK; clear Kv))
      refine rsize_ok P3.r 3 (fun W4 f4 => ?_)
      have P4 := P3.below (below_none f4)
      refine rread_ok P4.r 3 0 _ (by omega) (fun W5 f5 => ?_)
      have P5 := P4.below (below_none f5)
      repeat (any_goals (first
      | (with_reducible first|refine pureM_in ?_|((refine idGd ?_); refine zA ?_)|((refine idPick ?_); refine yB ?_))
      | ((with_reducible refine idO ?_); (with_reducible refine oM_gen fun Kv hK=>?_); simp [go_sem]; refine hK _ _ ?_; clear hK; clear Kv)))
      exact k _ (b0.trans (P5.bl.mono b0.size))
end
end Go.Proofs
