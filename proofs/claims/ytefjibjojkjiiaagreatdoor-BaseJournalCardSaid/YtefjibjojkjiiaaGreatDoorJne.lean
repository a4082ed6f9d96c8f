/- Parts of the proof of the seat's statements (JB4, JB5): lemmas about the given translation and plain laws. No condition of their own. -/
import Derived.Test.YtefjibjojkjiiaaGreatDoorJnd
set_option linter.all false
namespace Go.Proofs
open Go Go.Sh Go.RowKit CodeSpec JnSpec DkSpec
set_option linter.unusedSimpArgs false
set_option linter.unusedVariables false
set_option maxRecDepth 10000
def KG (g : Nat) : Nat → Prop := fun k => k = g
section
variable {w0 W W' : World} {Kp Kp' O1 O2 : Nat → Prop} {b rb g : Nat} {A A1 A2 A1' A2' : Ab} {h h' : Dk} {hr hr' : Rh} {j : Jn} {jo jo1 jo2 jo1' jo2' : Option Jn} {jv kv jv' kv' : Value} {K : Value → World → Prop}
theorem PS.noK (P : PS w0 W Kp O1 O2 b A1 h jo1 jv rb A2 hr jo2 kv) : PS w0 W NoK O1 O2 b A1 h jo1 jv rb A2 hr jo2 kv := P.fresh (Below.refl _ _) (fun k hk => hk.elim)
theorem holds_same {T : TypeId} {cs : List Value} (hh : Holds W g T cs) (hk : ∀ k, KG g k → W'.heap[k]? = W.heap[k]?) : Holds W' g T cs := by
  unfold Holds
  rw [hk g rfl]; exact hh
theorem disp_ok {l15 : List Value} {vk : Value} {x : JOp} {y : Int} {M18 M33 : List Value → World → Prop} (hM18 : ∀ vs W, LB w0 b rb vs W → M18 vs W) (hM33 : ∀ vs W, LB w0 b rb vs W → M33 vs W) (h6 : 6 ≤ w0.heap.size)
    (P : PS w0 W (KG g) O1 O2 b A h jo (l15.getD 7 undef) rb A hr jo (l15.getD 8 undef)) (he1 : l15.getD 2 undef = .int .i64 y) (he2 : l15.getD 3 undef = .int .i64 y)
    (hh : Holds W g 38 (opC x.k x.s x.n vk)) (hc : OpCells w0.heap.size W (opC x.k x.s x.n vk) x) (ht : x.s.length ≤ 200 ∧ x.keep.length ≤ 50) :
    pre_3_33 K M18 l15 (ptr g 0) (dkP b) (dkP rb) M33 W := by
  unfold pre_3_33
  obtain ⟨c0, c1, c2, c3⟩ := op_cells hh
  obtain ⟨vk', hvk, hrow⟩ := hc.row
  simp only [opC, List.cons.injEq, and_true, true_and] at hvk
  subst hvk
  have hz := P.bl.size
  have hkr : ∀ y ∈ x.keep, -2 ^ 63 ≤ y ∧ y < 2 ^ 63 := hc.kr
  have hn := hc.nin.2
  have hrowB : ∀ {W'}, Below w0.heap.size W W' → RowR intC 1 W' vk x.keep := fun hb => (hrow.below hb).row (Nat.le_trans hz hb.size)
  repeat (any_goals ((with_reducible refine idO ?_); (with_reducible refine oM_gen fun Kv hK=>?_); simp [go_sem, c0]; refine hK _ _ ?_; clear hK; clear Kv))
  by_cases k01 : x.k = 0 ∨ x.k = 1
  · refine ⟨fun l38 W' => l38 = [.bool true] ∧ W = W', ?_, ?_⟩
    · rcases k01 with k0 | k1
      · repeat (any_goals (first
        | (with_reducible ((refine idCond ?_); refine yL ?_))
        | ((with_reducible refine idO ?_); (with_reducible refine oM_gen fun Kv hK=>?_); simp [go_sem, k0]; refine hK _ _ ?_; clear hK; clear Kv)))
        exact ⟨by simp [k0], rfl⟩
      · repeat (any_goals (first
        | (with_reducible ((refine idCond ?_); refine yM ?_))
        | ((with_reducible refine idO ?_); (with_reducible refine oM_gen fun Kv hK=>?_); simp [go_sem, k1]; refine hK _ _ ?_; clear hK; clear Kv)))
        exact ⟨by simp [k1], rfl⟩
    · rintro _ _ _ ⟨rfl, rfl⟩
      unfold post_3_37
      simp only [List.getD_cons_zero]
      cases jo with
      | none =>
        have e7 : l15.getD 7 undef = .pointer none := P.j1
        have e8 : l15.getD 8 undef = .pointer none := P.j2
        have P0 := P.noK
        rw [e7, e8, he1, he2] at *
        repeat (any_goals (first
        | (with_reducible first|((refine idGd ?_); refine zD ?_)|((refine idPick ?_); refine yB ?_)|((refine idCond ?_); first|refine yL ?_|refine yM ?_))
        | ((with_reducible refine idO ?_); (with_reducible refine oM_gen fun Kv hK=>?_); simp [go_sem]; refine hK _ _ ?_; clear hK; clear Kv)))
        exact hM18 _ _ ⟨O1, O2, A, h, hr, none, y, P0, rfl, rfl⟩
      | some j =>
        obtain ⟨p, u, e7, jn, ho⟩ := P.j1
        obtain ⟨q, lv, e8, jr, hor⟩ := P.j2
        rw [e7, e8] at P ⊢
        rcases k01 with k0 | k1
        · rw [k0] at c0
          repeat (any_goals (first
          | (with_reducible first|refine pureM_in ?_|((refine idGd ?_); refine zC ?_)|((refine idPick ?_); refine yC ?_)|((refine idCond ?_); first|refine yL ?_|refine yM ?_))
          | ((with_reducible refine idO ?_); (with_reducible refine oM_gen fun Kv hK=>?_); simp [go_sem, c0, c1]; refine hK _ _ ?_; clear hK; clear Kv)))
          refine P.append x.s (by omega) (fun W1 h1 O1' P1 hk1 hb1 => ?_)
          obtain ⟨d0, d1, d2, d3⟩ := op_cells (holds_same hh hk1)
          repeat (any_goals ((with_reducible refine idO ?_); (with_reducible refine oM_gen fun Kv hK=>?_); simp [go_sem, d0, d1]; refine hK _ _ ?_; clear hK; clear Kv))
          refine P1.appendR h6 x.s (by omega) (fun W2 hr2 O2' P2 hk2 hb2 => ?_)
          exact hM33 _ _ ⟨O1', O2', _, h1, hr2, some (appendJ A 3 j x.s).2.2, _, P2.noK, rfl, rfl⟩
        · rw [k1] at c0
          repeat (any_goals (first
          | (with_reducible first|refine pureM_in ?_|((refine idGd ?_); refine zC ?_)|((refine idPick ?_); refine yC ?_)|((refine idCond ?_); first|refine yL ?_|refine yM ?_))
          | ((with_reducible refine idO ?_); (with_reducible refine oM_gen fun Kv hK=>?_); simp [go_sem, c0]; refine hK _ _ ?_; clear hK; clear Kv)))
          refine P.sync (fun W1 h1 O1' P1 hk1 hb1 => ?_)
          refine P1.syncR h6 (fun W2 hr2 O2' P2 hk2 hb2 => ?_)
          exact hM33 _ _ ⟨O1', O2', _, h1, hr2, some (syncJ A 3 j).2.2, _, P2.noK, rfl, rfl⟩
  have k0 : ¬ x.k = 0 := fun e => k01 (.inl e)
  have k1 : ¬ x.k = 1 := fun e => k01 (.inr e)
  refine ⟨fun l38 W' => l38 = [.bool false] ∧ W = W', ?_, ?_⟩
  · repeat (any_goals (first
    | (with_reducible ((refine idCond ?_); refine yO ?_))
    | ((with_reducible refine idO ?_); (with_reducible refine oM_gen fun Kv hK=>?_); simp [go_sem]; refine hK _ _ ?_; clear hK; clear Kv)))
    exact ⟨by simp [k1], rfl⟩
  · rintro _ _ _ ⟨rfl, rfl⟩
    unfold post_3_37
    simp only [List.getD_cons_zero]
    have same : ∀ {W' O1' O2' B h' hr'}, PS w0 W' (KG g) O1' O2' b B h' jo (l15.getD 7 undef) rb B hr' jo (l15.getD 8 undef) → ∀ {v0 v1 v4 v5 v6 : Value}, M33 [v0, v1, l15.getD 2 undef, l15.getD 3 undef, v4, v5, v6, l15.getD 7 undef, l15.getD 8 undef] W' := fun {W' O1' O2' B h' hr'} P' {v0 v1 v4 v5 v6} =>
      hM33 _ _ ⟨O1', O2', B, h', hr', jo, y, P'.noK, he1, he2⟩
    by_cases k2 : x.k = 2
    · rw [k2] at *
      repeat (any_goals (first
      | (with_reducible ((refine idCond ?_); first|refine yL ?_|refine yM ?_))
      | ((with_reducible refine idO ?_); (with_reducible refine oM_gen fun Kv hK=>?_); simp [go_sem, c0, c2]; refine hK _ _ ?_; clear hK; clear Kv)))
      refine lose_ok P.s.d x.n hn (fun W1 d1 t1 => ?_)
      obtain ⟨P1, hk1, hb1⟩ := P.disk d1 t1
      obtain ⟨e0, e1, e2, e3⟩ := op_cells (holds_same hh hk1)
      repeat (any_goals ((with_reducible refine idO ?_); (with_reducible refine oM_gen fun Kv hK=>?_); simp [go_sem, e2]; refine hK _ _ ?_; clear hK; clear Kv))
      refine rlose_ok P1.r x.n hn (fun W2 d2 t2 => ?_)
      obtain ⟨P2, hk2, hb2⟩ := P1.diskR h6 d2 t2
      skip
      exact same P2
    by_cases k3 : x.k = 3
    · rw [k3] at *
      repeat (any_goals (first
      | (with_reducible ((refine idCond ?_); first|refine yL ?_|refine yM ?_))
      | ((with_reducible refine idO ?_); (with_reducible refine oM_gen fun Kv hK=>?_); simp [go_sem, c0, c2, c3]; refine hK _ _ ?_; clear hK; clear Kv)))
      refine arm_ok P.s.d x.n hn (hrowB (Below.refl _ _)) (by omega) hkr (fun W1 h1 d1 t1 => ?_)
      obtain ⟨P1, hk1, hb1⟩ := P.disk d1 t1
      obtain ⟨e0, e1, e2, e3⟩ := op_cells (holds_same hh hk1)
      repeat (any_goals ((with_reducible refine idO ?_); (with_reducible refine oM_gen fun Kv hK=>?_); simp [go_sem, e2, e3]; refine hK _ _ ?_; clear hK; clear Kv))
      refine rarm_ok P1.r x.n hn (hrowB hb1) (fun W2 f2 => hrowB (hb1.trans ⟨f2.os, f2.tape, f2.output, f2.size, fun i hi => f2.block i (by have := P1.bl.size; omega) (fun ho => by have := (P1.n i (.inr (P1.i2 i ho))).1; omega)⟩)) (by omega) hkr (fun W2 hr2 d2 t2 => ?_)
      obtain ⟨P2, hk2, hb2⟩ := P1.diskR h6 d2 t2
      skip
      exact same P2
    by_cases k45 : x.k = 4 ∨ x.k = 5
    · have key : ∀ {l82 : List Value} {v84 v94 v78 : Value} {W1 B h1 hr1 O1' O2'}, PS w0 W1 (KG g) O1' O2' b B h1 jo (l15.getD 7 undef) rb B hr1 jo (l15.getD 8 undef) → post_3_81 M33 l15 [.bool false] [v78] (dkP b) (dkP rb) v84 v94 l82 W1 := by
        intro l82 v84 v94 v78 W1 B h1 hr1 O1' O2' P1
        unfold post_3_81
        refine start_ok P1.s.d (fun W2 d2 t2 => ?_)
        obtain ⟨P2, _, _⟩ := P1.disk d2 t2
        refine rstart_ok P2.r (fun W3 d3 t3 => ?_)
        obtain ⟨P3, _, _⟩ := P2.diskR h6 d3 t3
        refine P3.open (fun W4 h4 O14 jv4 P4 _ _ => ?_)
        repeat (any_goals ((with_reducible refine idO ?_); (with_reducible refine oM_gen fun Kv hK=>?_); simp [go_sem]; refine hK _ _ ?_; clear hK; clear Kv))
        refine P4.openR h6 (fun W5 hr5 O25 kv5 P5 _ _ => ?_)
        repeat (any_goals ((with_reducible refine idO ?_); (with_reducible refine oM_gen fun Kv hK=>?_); simp [go_sem]; refine hK _ _ ?_; clear hK; clear Kv))
        exact hM33 _ _ ⟨_, O25, _, h4, hr5, _, _, P5.noK, rfl, rfl⟩
      have tail : x.k = 4 ∨ x.k = 5 → ∀ {v84 v94 : Value}, post_3_77 M33 l15 [.bool false] (ptr g 0) (dkP b) (dkP rb) v84 v94 [.bool true] W := by
        intro k45 v84 v94
        unfold post_3_77
        simp only [List.getD_cons_zero]
        repeat (any_goals (with_reducible ((refine idCond ?_); refine yL ?_)))
        refine ⟨fun l82 W1 => ∃ B h1 hr1 O1' O2', PS w0 W1 (KG g) O1' O2' b B h1 jo (l15.getD 7 undef) rb B hr1 jo (l15.getD 8 undef), ?_, ?_⟩
        · unfold pre_3_81
          rcases k45 with k4 | k5
          · rw [k4] at c0
            repeat (any_goals (first
            | (with_reducible ((refine idCond ?_); refine yL ?_))
            | ((with_reducible refine idO ?_); (with_reducible refine oM_gen fun Kv hK=>?_); simp [go_sem, c0, c3]; refine hK _ _ ?_; clear hK; clear Kv)))
            refine crash_ok P.s.d (hrowB (Below.refl _ _)) (by omega) (fun W1 f1 => hrowB ⟨f1.os, f1.tape, f1.output, f1.size, fun i hi => f1.block i (by omega) (fun ho => by have := (P.n i (.inl (P.i1 i ho))).1; omega)⟩) (fun W1 h1 d1 t1 => ?_)
            obtain ⟨P1, hk1, hb1⟩ := P.disk d1 t1
            obtain ⟨e0, e1, e2, e3⟩ := op_cells (holds_same hh hk1)
            repeat (any_goals ((with_reducible refine idO ?_); (with_reducible refine oM_gen fun Kv hK=>?_); simp [go_sem, e3]; refine hK _ _ ?_; clear hK; clear Kv))
            refine rcrash_ok P1.r (kl := x.keep) (by omega) (fun W2 f2 => hrowB (hb1.trans ⟨f2.os, f2.tape, f2.output, f2.size, fun i hi => f2.block i (by have := P1.bl.size; omega) (fun ho => by have := (P1.n i (.inr (P1.i2 i ho))).1; omega)⟩)) (fun W2 hr2 d2 t2 => ?_)
            obtain ⟨P2, hk2, hb2⟩ := P1.diskR h6 d2 t2
            skip
            exact ⟨_, _, _, _, _, P2⟩
          · rw [k5] at c0
            repeat (any_goals (first
            | (with_reducible ((refine idCond ?_); refine yM ?_))
            | ((with_reducible refine idO ?_); (with_reducible refine oM_gen fun Kv hK=>?_); simp [go_sem, c0]; refine hK _ _ ?_; clear hK; clear Kv)))
            exact ⟨_, _, _, _, _, P⟩
        · rintro l82 _ W1 ⟨B, h1, hr1, O1', O2', P1⟩
          exact key P1
      rcases k45 with k4 | k5
      · rw [k4]
        repeat (any_goals (first
        | (with_reducible ((refine idCond ?_); refine yM ?_))
        | ((with_reducible refine idO ?_); (with_reducible refine oM_gen fun Kv hK=>?_); simp [go_sem]; refine hK _ _ ?_; clear hK; clear Kv)))
        refine ⟨fun l78 W1 => l78 = [.bool true] ∧ W = W1, ?_, ?_⟩
        · repeat (any_goals (first
          | (with_reducible ((refine idCond ?_); refine yL ?_))
          | ((with_reducible refine idO ?_); (with_reducible refine oM_gen fun Kv hK=>?_); simp [go_sem]; refine hK _ _ ?_; clear hK; clear Kv)))
          exact ⟨rfl, rfl⟩
        · rintro _ _ _ ⟨rfl, rfl⟩
          exact tail (.inl k4)
      · rw [k5]
        repeat (any_goals (first
        | (with_reducible ((refine idCond ?_); refine yM ?_))
        | ((with_reducible refine idO ?_); (with_reducible refine oM_gen fun Kv hK=>?_); simp [go_sem]; refine hK _ _ ?_; clear hK; clear Kv)))
        refine ⟨fun l78 W1 => l78 = [.bool true] ∧ W = W1, ?_, ?_⟩
        · repeat (any_goals (first
          | (with_reducible ((refine idCond ?_); refine yM ?_))
          | ((with_reducible refine idO ?_); (with_reducible refine oM_gen fun Kv hK=>?_); simp [go_sem]; refine hK _ _ ?_; clear hK; clear Kv)))
          exact ⟨rfl, rfl⟩
        · rintro _ _ _ ⟨rfl, rfl⟩
          exact tail (.inr k5)
    · have k4 : ¬ x.k = 4 := fun e => k45 (.inl e)
      have k5 : ¬ x.k = 5 := fun e => k45 (.inr e)
      repeat (any_goals (first
      | (with_reducible ((refine idCond ?_); first|refine yM ?_|refine yO ?_))
      | ((with_reducible refine idO ?_); (with_reducible refine oM_gen fun Kv hK=>?_); simp [go_sem, c0]; refine hK _ _ ?_; clear hK; clear Kv)))
      refine ⟨fun l78 W1 => l78 = [.bool false] ∧ W = W1, ?_, ?_⟩
      · repeat (any_goals (first
        | (with_reducible ((refine idCond ?_); refine yO ?_))
        | ((with_reducible refine idO ?_); (with_reducible refine oM_gen fun Kv hK=>?_); simp [go_sem]; refine hK _ _ ?_; clear hK; clear Kv)))
        exact ⟨by simp [k5], rfl⟩
      · rintro _ _ _ ⟨rfl, rfl⟩
        unfold post_3_77
        simp only [List.getD_cons_zero]
        repeat (any_goals (with_reducible ((refine idCond ?_); refine yM ?_)))
        exact same P
end
end Go.Proofs
namespace Go.Proofs
open Go Go.Sh Go.RowKit CodeSpec JnSpec DkSpec
set_option linter.unusedSimpArgs false
set_option linter.unusedVariables false
set_option maxRecDepth 10000
attribute [local go_sem] oM_indexAddr
section
variable {w w0 W W' : World} {Kp Kp' O1 O2 : Nat → Prop} {b rb g i : Nat} {A A1 A2 A1' A2' : Ab} {h h' : Dk} {hr hr' : Rh} {j : Jn} {jo jo1 jo2 jo1' jo2' : Option Jn} {jv kv jv' kv' : Value} {K : Value → World → Prop}
theorem turn_ok {l : List JOp} {l15 : List Value} {a0 : Value} {M : List Value → World → Prop} (hM : ∀ vs W, LB w0 b rb vs W → M vs W) (h6 : 6 ≤ w0.heap.size)
    (L : LB w0 b rb l15 W) (hi : i < l.length) (hl : FewO l) (ho : OpRow w0.heap.size w0 a0 l) (hiv : l15.getD 9 undef = .int .i64 (i : Int)) :
    pre_3_18 K a0 l15 (dkP b) (dkP rb) M W := by
  obtain ⟨O1, O2, A, h, hr, jo, y, P, he1, he2⟩ := L
  unfold pre_3_18
  have ho1 := ho.below P.bl
  obtain ⟨bb, o, c, vk, rfl, hrk, hcs, c0, c1, c2, c3⟩ := ho1.at hi
  have hix := idxOp (b := bb) (o := o) (c := c) hi W
  have hld := loadOp c0 c1 c2 c3
  rw [hiv]
  repeat (any_goals ((with_reducible refine idO ?_); (with_reducible refine oM_gen fun Kv hK=>?_); simp [go_sem, hix]; refine hK _ _ ?_; clear hK; clear Kv))
  rw [oM_load, hld, rM_ok]
  obtain ⟨ad', c', rfl, _⟩ := id hrk
  refine arr_alloc al_op (fun g W1 b1 hg1 hh1 => ?_)
  refine arr_store sz_op (x := .agg #[.int .i64 l[i].k, bsV l[i].s, .int .i64 l[i].n, .slice ad' l[i].keep.length c']) (xs := opC l[i].k l[i].s l[i].n (.slice ad' l[i].keep.length c')) rfl rfl op_one hh1 rfl (fun W2 hg2 hh2 => ?_)
  have b2 : Below W.heap.size W W2 := grown_below b1 hg2 hg1
  have P2 : PS w0 W2 (KG g) O1 O2 b A h jo (l15.getD 7 undef) rb A hr jo (l15.getD 8 undef) := P.fresh b2 (fun k hk => .inr ⟨by cases hk; exact hg1, by cases hk; exact hh2.lt⟩)
  have hx := hl.2 _ (List.getElem_mem hi)
  have hcs2 := hcs.below (b2.mono P.bl.size)
  unfold held_3_23
  refine ⟨Nx { W2 with drawn := W2.drawn + 1 }, Below.refl _ _, rfl, ?_⟩
  have h3 : Nx W2 { W2 with drawn := W2.drawn + 1 } := ((Below.refl _ _).drew)
  have P3 := P2.below h3
  have hh3 := hh2.next h3
  have hcs3 := hcs2.below (h3.mono P2.bl.size)
  generalize ({ W2 with drawn := W2.drawn + 1 } : World) = W3 at h3 P3 hh3 hcs3 ⊢
  repeat (first | (with_reducible refine pureH_in ?_) | (with_reducible refine oH_nil ?_) | (with_reducible refine gdH_true rfl ?_) | (with_reducible refine gdH_false rfl ?_) | (refine oH_of ⟨_, rfl⟩ (fun W0 hW0 => by (refine oM_gen (fun Kv hK => ?_)); simp [go_sem, op_cells (hh3.next hW0)]; (first | exact hK _ _ ⟨rfl, rfl⟩ | exact ⟨by omega, hK _ _ ⟨rfl, rfl⟩⟩)) ?_))
  refine ⟨Nx, ?_⟩
  refine monoE (x := .int .i64 (sumR l[i].s)) (fun w4 h4 => Sum_ok l[i].s (by omega) ⟨h4, Below.refl _ _, rfl⟩) ?_
  intro w4 h4 v e4
  subst e4
  refine rSum_ok l[i].s (by omega) ?_
  repeat (any_goals (first
  | (with_reducible ((refine idCond ?_); refine yM ?_))
  | ((with_reducible refine idO ?_); (with_reducible refine oM_gen fun Kv hK=>?_); simp [go_sem]; refine hK _ _ ?_; clear hK; clear Kv)))
  have P4 := P3.below h4
  refine ⟨fun vs W' => LB w0 b rb vs W', ?_, ?_⟩
  · exact disp_ok hM (fun _ _ h => h) h6 P4 he1 he2 (hh3.next h4) (hcs3.below (h4.mono P3.bl.size)) hx
  · rintro l34 _ W5 L5
    exact post33_ok hM L5
set_option maxHeartbeats 1000000 in
theorem journal_ok {l : List JOp} {a0 : Value} (hl : Cd.Laid w) (ho : OpRow w.heap.size w a0 l) (hll : l.length ≤ 9223372036854775807) (k : ∀ w', Below w.heap.size w w' → K (.bool true) w') : callM Tryz.prog 3 #[a0] K w := by
  apply sh_3_ok
  unfold sh_3
  refine sane_ok hl (fun w0 b0 => ?_)
  have h6 : 6 ≤ w0.heap.size := Nat.le_trans hl.size b0.size
  have ho0 : OpRow w0.heap.size w0 a0 l := (ho.below b0).mono b0.size
  refine few_ok ho0 hll (fun t hfew => ?_)
  cases t with
  | false =>
    repeat (any_goals (first
    | (with_reducible ((refine idCond ?_); refine yL ?_))
    | ((with_reducible refine idO ?_); (with_reducible refine oM_gen fun Kv hK=>?_); simp [go_sem]; refine hK _ _ ?_; clear hK; clear Kv)))
    exact k _ b0
  | true =>
    have hl0 := hfew rfl
    repeat (any_goals (first
    | (with_reducible ((refine idCond ?_); refine yM ?_))
    | ((with_reducible refine idO ?_); (with_reducible refine oM_gen fun Kv hK=>?_); simp [go_sem]; refine hK _ _ ?_; clear hK; clear Kv)))
    refine newSys_ok (hl.below b0 hl.size) (fun w1 b h1 s1 b1 o1 => ?_)
    refine rnew_ok (fun w2 rb hr2 r2 f2 or2 rd2 => ?_)
    have b2 : Below w1.heap.size w1 w2 := below_none f2
    have P2 : PS w0 w2 NoK (fun i => w0.heap.size ≤ i ∧ i < w1.heap.size) (fun i => w1.heap.size ≤ i ∧ i < w2.heap.size) b newA h1 none (.pointer none) rb newA hr2 none (.pointer none) :=
      ⟨s1.below b2, r2, rfl, rfl, fun i hi => ⟨o1 i hi, s1.d.lt (.inl hi)⟩, fun i hi => ⟨or2 i hi, r2.lt (.inl hi)⟩, fun i hi ho => by have := s1.d.lt (.inr hi); omega, fun i hi => absurd hi (rd2 i), fun i hi => by have := b1.size; have := b2.size; omega, fun i hi ho => by omega, fun k hk => hk.elim, b1.trans (b2.mono b1.size)⟩
    repeat (any_goals (first
    | (with_reducible ((refine idCond ?_); refine yM ?_))
    | ((with_reducible refine idO ?_); (with_reducible refine oM_gen fun Kv hK=>?_); simp [go_sem]; refine hK _ _ ?_; clear hK; clear Kv)))
    refine P2.open (fun w3 h3 O13 jv3 P3 _ _ => ?_)
    repeat (any_goals ((with_reducible refine idO ?_); (with_reducible refine oM_gen fun Kv hK=>?_); simp [go_sem]; refine hK _ _ ?_; clear hK; clear Kv))
    refine P3.openR h6 (fun w4 hr4 O24 kv4 P4 _ _ => ?_)
    repeat (any_goals ((with_reducible refine idO ?_); (with_reducible refine oM_gen fun Kv hK=>?_); simp [go_sem]; refine hK _ _ ?_; clear hK; clear Kv))
    refine ⟨fun vs W => ∃ i : Nat, vs.getD 9 undef = .int .i64 (i : Int) ∧ i ≤ l.length ∧ LB w0 b rb vs W, fun vs _ => match vs.getD 9 undef with | .int _ n => l.length - n.toNat | _ => 0, ⟨0, rfl, by omega, _, _, _, h3, hr4, _, _, P4, rfl, rfl⟩, ?_⟩
    rintro l15 _ W ⟨i, hiv, hi, hL⟩
    unfold loop_3_13
    obtain ⟨va, vc, hve⟩ := ho0.len
    subst hve
    have hl25 := hl0.1
    rw [hiv]
    by_cases hlt : i < l.length
    · repeat (any_goals (first
      | (with_reducible ((refine idCond ?_); refine yN ?_))
      | ((with_reducible refine idO ?_); (with_reducible refine oM_gen fun Kv hK=>?_); simp [go_sem]; refine hK _ _ ?_; clear hK; clear Kv)))
      refine ⟨fun vs W' => LB w0 b rb vs W', turn_ok (fun _ _ h => h) h6 hL hlt hl0 ho0 hiv, ?_⟩
      rintro l19 _ W' hL'
      unfold post_3_18
      rw [hiv]
      repeat (any_goals ((with_reducible refine idO ?_); (with_reducible refine oM_gen fun Kv hK=>?_); simp [go_sem]; (try simp (disch := omega) only [wrapI64, wrapU8, wrapU32, wrapU64]); refine hK _ _ ?_; clear hK; clear Kv))
      exact ⟨⟨i + 1, rfl, hlt, hL'⟩, by show _ < (match l15.getD 9 undef with | .int _ n => l.length - n.toNat | _ => 0); rw [hiv]; exact Nat.sub_lt_sub_left hlt (Nat.lt_succ_self i)⟩
    · obtain ⟨O1, O2, A, h, hr, jo, y, P, he1, he2⟩ := hL
      repeat (any_goals (first
      | (with_reducible ((refine idCond ?_); refine yO ?_))
      | ((with_reducible refine idO ?_); (with_reducible refine oM_gen fun Kv hK=>?_); simp [go_sem]; refine hK _ _ ?_; clear hK; clear Kv)))
      refine start_ok P.s.d (fun W2 d2 t2 => ?_)
      obtain ⟨P2, _, _⟩ := P.disk d2 t2
      refine rstart_ok P2.r (fun W3 d3 t3 => ?_)
      obtain ⟨P3, _, _⟩ := P2.diskR h6 d3 t3
      refine size_ok P3.s.d 3 ?_
      refine read_ok P3.s.d 3 0 _ ?_
      repeat (any_goals ((with_reducible refine idO ?_); (with_reducible refine oM_gen fun Kv hK=>?_); simp [go_sem]; refine hK _ _ ?_; clear hK; clear Kv))
      refine rsize_ok P3.r 3 (fun W4 f4 => ?_)
      have P4 := P3.below (below_none f4)
      refine rread_ok P4.r 3 0 _ (by omega) (fun W5 f5 => ?_)
      have P5 := P4.below (below_none f5)
      repeat (any_goals (first
      | (with_reducible first|refine pureM_in ?_|((refine idGd ?_); refine zA ?_)|((refine idPick ?_); refine yB ?_))
      | ((with_reducible refine idO ?_); (with_reducible refine oM_gen fun Kv hK=>?_); simp [go_sem]; refine hK _ _ ?_; clear hK; clear Kv)))
      exact k _ (b0.trans (P5.bl.mono b0.size))
end
end Go.Proofs
