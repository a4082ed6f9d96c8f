/- Parts of the proof of the seat's statements (TkF, TkG, TkH, TkI, TkJ, TkK, TkL, TkM, TkN, HTd): lemmas about the given translation and plain laws. No condition of their own. -/
import Derived.Test.YtpimhdkjpccihaaGreatDoorPc
import Derived.Test.YtpimhdkjpccihaaGreatDoorProg
set_option linter.all false
--G
namespace Go.Proofs
open Go Go.Sh Go.RowKit FdSpec TkSpec
set_option linter.unusedSimpArgs false
set_option linter.unusedVariables false
set_option maxRecDepth 10000
theorem I64_of {x n : Int} (h : 0 ≤ x ∧ x < n) (hn : okN n) : I64 x := by unfold I64; unfold okN at hn; omega
theorem I64_0 : I64 0 := by unfold I64; omega
theorem mulM_I64 (n a b : Int) : I64 (mulM n a b) := by
  by_cases hn : okN n
  · exact I64_of (mulM_range n a b hn) hn
  · unfold mulM; rw [if_neg hn]; exact I64_0
theorem addM_I64 (n a b : Int) : I64 (addM n a b) := by
  by_cases hn : okN n
  · exact I64_of (addM_range n a b hn) hn
  · unfold addM; rw [if_neg hn]; exact I64_0
theorem subM_I64 (n a b : Int) : I64 (subM n a b) := by
  by_cases hn : okN n
  · exact I64_of (subM_range n a b hn) hn
  · unfold subM; rw [if_neg hn]; exact I64_0
theorem powM_I64 (n a b : Int) : I64 (powM n a b) := by
  by_cases hn : okN n
  · have h1 : 0 < n := by unfold okN at hn; omega
    unfold powM; rw [if_pos hn]
    split
    · exact I64_of (pw_nonneg n a _ h1) hn
    · split
      · exact I64_of (pw_nonneg n _ _ h1) hn
      · exact I64_0
  · unfold powM; rw [if_neg hn]; exact I64_0
theorem powerG_I64 (g : Grp) (x k : Int) : I64 (powerG g x k) := by
  unfold powerG
  split
  · rename_i h
    exact I64_of (pw_nonneg g.P x _ (by have := h.1; unfold okN at this; omega)) h.1
  · exact I64_0
theorem timesG_I64 (g : Grp) (a b : Int) : I64 (timesG g a b) := by
  unfold timesG
  split
  · exact mulM_I64 _ _ _
  · exact I64_0
theorem mulQ_I64 (s : Stp) (x : Int) (l : List Int) (h : l ≠ []) : I64 (mulQ s x l) := by
  unfold mulQ
  obtain ⟨l', y, rfl⟩ : ∃ l' y, l = l' ++ [y] := ⟨l.dropLast, l.getLast h, (List.dropLast_concat_getLast h).symm⟩
  rw [List.foldl_append]
  exact mulM_I64 _ _ _
section
variable {K : Value → World → Prop} {w w0 : World} {L : List (Addr × Value)}
theorem mk5 {T : TypeId} (a b c d e : Int) (ha : I64 a) (hb : I64 b) (hc : I64 c) (hd : I64 d) (he : I64 e) (k : ∀ v W, Below w.heap.size w W → Ints W v [a, b, c, d, e] → K v W) : oM Tryz.prog (.buildSlice 22 5 #[(0, .tmp 0), (1, .tmp 1), (2, .tmp 2), (3, .tmp 3), (4, .tmp 4)]) T [.int .i64 a, .int .i64 b, .int .i64 c, .int .i64 d, .int .i64 e] K w := by
  rw [rM_of (S := Instr.buildSlice 22 5 #[(0, .int .i64 a), (1, .int .i64 b), (2, .int .i64 c), (3, .int .i64 d), (4, .int .i64 e)]) (by simp [xop, execOp, evalL, evE])]
  have e : (Instr.buildSlice 22 5 #[(0, .int .i64 a), (1, .int .i64 b), (2, .int .i64 c), (3, .int .i64 d), (4, .int .i64 e)]).run Tryz.prog w = .ok (.slice (some ⟨w.heap.size, 0, none⟩) 5 5) (w.alloc (.cells #[.int .i64 a, .int .i64 b, .int .i64 c, .int .i64 d, .int .i64 e] 3)) := by kernel_rfl
  rw [e]
  exact k _ _ ((Below.refl _ w).alloc (Nat.le_refl _) _) (ints_alloc w [a, b, c, d, _] _ 5 (by simp; exact ⟨ha, hb, hc, hd, he⟩) (by simp))
theorem over_ok (s : Stp) (x y : Int) {dv : Value} (hs : SetR w s dv) (k : ∀ w', Below w.heap.size w w' → K (.int .i64 (overQ s x y)) w') : callM Tryz.prog 105 #[stpV s dv, .int .i64 x, .int .i64 y] K w := by
  apply sh_105_ok
  unfold sh_105
  obtain ⟨ad, c, rfl⟩ := hs.ints.isSlice
  refine box_kn (cs := stpC s (.slice ad s.bases.length c)) rfl (.start w) fun b W hk hb1 hb => ?_
  refine ⟨Kn w _, hk.drew, ?_⟩
  have hk := hk.drew
  repeat (any_goals (first
  | (with_reducible first|refine pureM_in ?_|refine pureQ_in ?_|refine pureH_in ?_|((refine idGdQ ?_); refine gdQ_conv fun _=>?_)|((refine idGdH ?_); refine gdH_conv fun _=>?_)|refine And.intro (Eq.refl (α := World) _) ?_|refine forall_one ?_|((refine idGd ?_); first|refine zA ?_|refine zB ?_|refine zC ?_|refine zD ?_|refine zE ?_|((refine idGdD ?_); first|refine zF ?_|refine zG ?_|refine zH (fun hg=>?_) fun hg=>?_|refine zI ?_|refine zJ ?_|refine zK (fun hg=>?_) fun hg=>?_)|((refine idGdN ?_); first|refine zL ?_|refine zM ?_|refine zN (fun hg=>?_) fun hg=>?_|refine zO ?_|refine zP ?_|refine zQ (fun hg=>?_) fun hg=>?_)|refine zR ?_|refine zS ?_|refine zT ?_|refine zU ?_|refine zV ?_|refine zW ?_|refine zX (fun hg=>?_) fun hg=>?_|refine zY ?_|refine zZ ?_|refine yA (fun hg=>?_) fun hg=>?_)|((refine idPick ?_); first|refine yB ?_|refine yC ?_|refine yD ?_|refine yE ?_|refine yF ?_|refine yG ?_|refine yH ?_|refine yI ?_|refine yJ ?_|refine yK ?_)|((refine idCond ?_); first|refine yL ?_|refine yM ?_|refine yN ?_|refine yO ?_|refine yP (fun hg=>?_) fun hg=>?_|refine yQ ?_|refine yR ?_|refine yS (fun hg=>?_) fun hg=>?_|refine yT ?_|refine yU ?_|refine yV (fun hg=>?_) fun hg=>?_|refine yW ?_|refine yX ?_|refine yY (fun hg=>?_) fun hg=>?_))
  | ((with_reducible refine idOQ ?_); first|(with_reducible first|refine wA ?_|refine wB ?_|refine wC ?_|refine wD ?_|refine wE ?_|refine wF ?_|refine oQ_nil ?_)|((with_reducible refine oQ_one ?_ ?_); exact ⟨_, rfl⟩)|(with_reducible refine oQ_of ⟨_, rfl⟩ (fun W0 hW0 => by (refine oM_gen (fun Kv hK => ?_)); simp [go_sem, hW0.cells]; (first | exact hK _ _ ⟨rfl, rfl⟩ | exact ⟨by omega, hK _ _ ⟨rfl, rfl⟩⟩)) ?_))
  | ((with_reducible refine idOH ?_); first|(with_reducible first|refine vA ?_|refine vB ?_|refine vC ?_|refine vD ?_|refine vE ?_|refine vF ?_|refine oH_nil ?_)|(with_reducible refine oH_of ⟨_, rfl⟩ (fun W0 hW0 => by (refine oM_gen (fun Kv hK => ?_)); simp [go_sem, hW0.cells]; (first | exact hK _ _ ⟨rfl, rfl⟩ | exact ⟨by omega, hK _ _ ⟨rfl, rfl⟩⟩)) ?_))
  | ((with_reducible refine idO ?_); (with_reducible refine oM_gen fun Kv hK=>?_); simp [go_sem]; (try simp (disch := omega) only [wrapI64, wrapU8, wrapU32, wrapU64]); (first|refine hK _ _ ?_|refine And.intro (by omega) (hK _ _ ?_)); clear hK; clear Kv)))
  refine Pow_ok _ _ _ (by omega) (fun w2 h2 => ?_)
  have hk := hk.next h2
  refine ⟨hk, mk1 _ (powM_I64 _ _ _) (fun v w3 h3 hi => ?_)⟩
  have hk := hk.next h3
  refine ⟨hk, mul_ok s x (hs.next hk.below) hi (fun w4 h4 => ?_)⟩
  have hk := hk.next h4
  exact ⟨hk, hk, k _ hk.below⟩
theorem Mark_ok (s : Stp) {v lv : Value} {l : List Int} (hs : SetR w s v) (hl : Ints w lv l) (k : ∀ w', Below w.heap.size w w' → K (.int .i64 (markM s l).1) w') : callM Tryz.prog 27 #[stpV s v, lv] K w := by
  apply sh_27_ok
  unfold sh_27
  obtain ⟨ad, c, rfl⟩ := hs.ints.isSlice
  refine box_kn (cs := stpC s (.slice ad s.bases.length c)) rfl (.start w) fun b W hk hb1 hb => ?_
  repeat (any_goals (first
  | (with_reducible first|refine pureM_in ?_|((refine idGd ?_); first|refine zA ?_|refine zB ?_|refine zC ?_|refine zD ?_|refine zE ?_|((refine idGdD ?_); first|refine zF ?_|refine zG ?_|refine zH (fun hg=>?_) fun hg=>?_|refine zI ?_|refine zJ ?_|refine zK (fun hg=>?_) fun hg=>?_)|((refine idGdN ?_); first|refine zL ?_|refine zM ?_|refine zN (fun hg=>?_) fun hg=>?_|refine zO ?_|refine zP ?_|refine zQ (fun hg=>?_) fun hg=>?_)|refine zR ?_|refine zS ?_|refine zT ?_|refine zU ?_|refine zV ?_|refine zW ?_|refine zX (fun hg=>?_) fun hg=>?_|refine zY ?_|refine zZ ?_|refine yA (fun hg=>?_) fun hg=>?_)|((refine idPick ?_); first|refine yB ?_|refine yC ?_|refine yD ?_|refine yE ?_|refine yF ?_|refine yG ?_|refine yH ?_|refine yI ?_|refine yJ ?_|refine yK ?_)|((refine idCond ?_); first|refine yL ?_|refine yM ?_|refine yN ?_|refine yO ?_|refine yP (fun hg=>?_) fun hg=>?_|refine yQ ?_|refine yR ?_|refine yS (fun hg=>?_) fun hg=>?_|refine yT ?_|refine yU ?_|refine yV (fun hg=>?_) fun hg=>?_|refine yW ?_|refine yX ?_|refine yY (fun hg=>?_) fun hg=>?_))
  | ((with_reducible refine idO ?_); (with_reducible refine oM_gen fun Kv hK=>?_); simp [go_sem, hk.cells]; (try simp (disch := omega) only [wrapI64, wrapU8, wrapU32, wrapU64]); (first|refine hK _ _ ?_|refine And.intro (by omega) (hK _ _ ?_)); clear hK; clear Kv)))
  refine mark_ok s (hs.next hk.below) (hl.next hk.below) (fun w2 h2 => ?_)
  have hk := hk.next h2
  repeat (any_goals (first
  | ((with_reducible refine local_desk' s ad s.bases.length c hk ?_); intro b7 W7 hk hb7 hg7)
  | (with_reducible first|refine pureM_in ?_|((refine idGd ?_); first|refine zA ?_|refine zB ?_|refine zC ?_|refine zD ?_|refine zE ?_|((refine idGdD ?_); first|refine zF ?_|refine zG ?_|refine zH (fun hg=>?_) fun hg=>?_|refine zI ?_|refine zJ ?_|refine zK (fun hg=>?_) fun hg=>?_)|((refine idGdN ?_); first|refine zL ?_|refine zM ?_|refine zN (fun hg=>?_) fun hg=>?_|refine zO ?_|refine zP ?_|refine zQ (fun hg=>?_) fun hg=>?_)|refine zR ?_|refine zS ?_|refine zT ?_|refine zU ?_|refine zV ?_|refine zW ?_|refine zX (fun hg=>?_) fun hg=>?_|refine zY ?_|refine zZ ?_|refine yA (fun hg=>?_) fun hg=>?_)|((refine idPick ?_); first|refine yB ?_|refine yC ?_|refine yD ?_|refine yE ?_|refine yF ?_|refine yG ?_|refine yH ?_|refine yI ?_|refine yJ ?_|refine yK ?_)|((refine idCond ?_); first|refine yL ?_|refine yM ?_|refine yN ?_|refine yO ?_|refine yP (fun hg=>?_) fun hg=>?_|refine yQ ?_|refine yR ?_|refine yS (fun hg=>?_) fun hg=>?_|refine yT ?_|refine yU ?_|refine yV (fun hg=>?_) fun hg=>?_|refine yW ?_|refine yX ?_|refine yY (fun hg=>?_) fun hg=>?_))
  | ((with_reducible refine idO ?_); (with_reducible refine oM_gen fun Kv hK=>?_); simp [go_sem, hk.cells]; (try simp (disch := omega) only [wrapI64, wrapU8, wrapU32, wrapU64]); (first|refine hK _ _ ?_|refine And.intro (by omega) (hK _ _ ?_)); clear hK; clear Kv)))
  exact k _ hk.below
theorem Usable_ok (s : Stp) {v lv : Value} {l : List Int} (hs : SetR w s v) (hl : Ints w lv l) (k : ∀ w', Below w.heap.size w w' → K (.bool (usableM s l).2) w') : callM Tryz.prog 29 #[stpV s v, lv] K w := by
  apply sh_29_ok
  unfold sh_29
  obtain ⟨ad, c, rfl⟩ := hs.ints.isSlice
  refine box_kn (cs := stpC s (.slice ad s.bases.length c)) rfl (.start w) fun b W hk hb1 hb => ?_
  repeat (any_goals (first
  | (with_reducible first|refine pureM_in ?_|((refine idGd ?_); first|refine zA ?_|refine zB ?_|refine zC ?_|refine zD ?_|refine zE ?_|((refine idGdD ?_); first|refine zF ?_|refine zG ?_|refine zH (fun hg=>?_) fun hg=>?_|refine zI ?_|refine zJ ?_|refine zK (fun hg=>?_) fun hg=>?_)|((refine idGdN ?_); first|refine zL ?_|refine zM ?_|refine zN (fun hg=>?_) fun hg=>?_|refine zO ?_|refine zP ?_|refine zQ (fun hg=>?_) fun hg=>?_)|refine zR ?_|refine zS ?_|refine zT ?_|refine zU ?_|refine zV ?_|refine zW ?_|refine zX (fun hg=>?_) fun hg=>?_|refine zY ?_|refine zZ ?_|refine yA (fun hg=>?_) fun hg=>?_)|((refine idPick ?_); first|refine yB ?_|refine yC ?_|refine yD ?_|refine yE ?_|refine yF ?_|refine yG ?_|refine yH ?_|refine yI ?_|refine yJ ?_|refine yK ?_)|((refine idCond ?_); first|refine yL ?_|refine yM ?_|refine yN ?_|refine yO ?_|refine yP (fun hg=>?_) fun hg=>?_|refine yQ ?_|refine yR ?_|refine yS (fun hg=>?_) fun hg=>?_|refine yT ?_|refine yU ?_|refine yV (fun hg=>?_) fun hg=>?_|refine yW ?_|refine yX ?_|refine yY (fun hg=>?_) fun hg=>?_))
  | ((with_reducible refine idO ?_); (with_reducible refine oM_gen fun Kv hK=>?_); simp [go_sem, hk.cells]; (try simp (disch := omega) only [wrapI64, wrapU8, wrapU32, wrapU64]); (first|refine hK _ _ ?_|refine And.intro (by omega) (hK _ _ ?_)); clear hK; clear Kv)))
  refine usable_ok s (hs.next hk.below) (hl.next hk.below) (fun w2 h2 => ?_)
  have hk := hk.next h2
  repeat (any_goals (first
  | ((with_reducible refine local_desk' s ad s.bases.length c hk ?_); intro b7 W7 hk hb7 hg7)
  | (with_reducible first|refine pureM_in ?_|((refine idGd ?_); first|refine zA ?_|refine zB ?_|refine zC ?_|refine zD ?_|refine zE ?_|((refine idGdD ?_); first|refine zF ?_|refine zG ?_|refine zH (fun hg=>?_) fun hg=>?_|refine zI ?_|refine zJ ?_|refine zK (fun hg=>?_) fun hg=>?_)|((refine idGdN ?_); first|refine zL ?_|refine zM ?_|refine zN (fun hg=>?_) fun hg=>?_|refine zO ?_|refine zP ?_|refine zQ (fun hg=>?_) fun hg=>?_)|refine zR ?_|refine zS ?_|refine zT ?_|refine zU ?_|refine zV ?_|refine zW ?_|refine zX (fun hg=>?_) fun hg=>?_|refine zY ?_|refine zZ ?_|refine yA (fun hg=>?_) fun hg=>?_)|((refine idPick ?_); first|refine yB ?_|refine yC ?_|refine yD ?_|refine yE ?_|refine yF ?_|refine yG ?_|refine yH ?_|refine yI ?_|refine yJ ?_|refine yK ?_)|((refine idCond ?_); first|refine yL ?_|refine yM ?_|refine yN ?_|refine yO ?_|refine yP (fun hg=>?_) fun hg=>?_|refine yQ ?_|refine yR ?_|refine yS (fun hg=>?_) fun hg=>?_|refine yT ?_|refine yU ?_|refine yV (fun hg=>?_) fun hg=>?_|refine yW ?_|refine yX ?_|refine yY (fun hg=>?_) fun hg=>?_))
  | ((with_reducible refine idO ?_); (with_reducible refine oM_gen fun Kv hK=>?_); simp [go_sem, hk.cells]; (try simp (disch := omega) only [wrapI64, wrapU8, wrapU32, wrapU64]); (first|refine hK _ _ ?_|refine And.intro (by omega) (hK _ _ ?_)); clear hK; clear Kv)))
  exact k _ hk.below
theorem Public_ok (s : Stp) (x : Int) {v : Value} (hx : I64 x) (hs : SetR w s v) (k : ∀ w', Below w.heap.size w w' → K (.int .i64 (publicM s x)) w') : callM Tryz.prog 19 #[stpV s v, .int .i64 x] K w := by
  apply sh_19_ok
  unfold sh_19
  obtain ⟨ad, c, rfl⟩ := hs.ints.isSlice
  refine box_kn (cs := stpC s (.slice ad s.bases.length c)) rfl (.start w) fun b W hk hb1 hb => ?_
  have k2 : ∀ w' r, publicM s x = r → Below w.heap.size w w' → K (.int .i64 r) w' := fun w' r e hb => by rw [← e]; exact k w' hb
  clear k
  unfold publicM at k2
  repeat (any_goals (first
  | (with_reducible first|refine pureM_in ?_|((refine idGd ?_); first|refine zA ?_|refine zB ?_|refine zC ?_|refine zD ?_|refine zE ?_|((refine idGdD ?_); first|refine zF ?_|refine zG ?_|refine zH (fun hg=>?_) fun hg=>?_|refine zI ?_|refine zJ ?_|refine zK (fun hg=>?_) fun hg=>?_)|((refine idGdN ?_); first|refine zL ?_|refine zM ?_|refine zN (fun hg=>?_) fun hg=>?_|refine zO ?_|refine zP ?_|refine zQ (fun hg=>?_) fun hg=>?_)|refine zR ?_|refine zS ?_|refine zT ?_|refine zU ?_|refine zV ?_|refine zW ?_|refine zX (fun hg=>?_) fun hg=>?_|refine zY ?_|refine zZ ?_|refine yA (fun hg=>?_) fun hg=>?_)|((refine idPick ?_); first|refine yB ?_|refine yC ?_|refine yD ?_|refine yE ?_|refine yF ?_|refine yG ?_|refine yH ?_|refine yI ?_|refine yJ ?_|refine yK ?_)|((refine idCond ?_); first|refine yL ?_|refine yM ?_|refine yN ?_|refine yO ?_|refine yP (fun hg=>?_) fun hg=>?_|refine yQ ?_|refine yR ?_|refine yS (fun hg=>?_) fun hg=>?_|refine yT ?_|refine yU ?_|refine yV (fun hg=>?_) fun hg=>?_|refine yW ?_|refine yX ?_|refine yY (fun hg=>?_) fun hg=>?_))
  | ((with_reducible refine idO ?_); (with_reducible refine oM_gen fun Kv hK=>?_); simp [go_sem, hk.cells]; (try simp (disch := omega) only [wrapI64, wrapU8, wrapU32, wrapU64]); (first|refine hK _ _ ?_|refine And.intro (by omega) (hK _ _ ?_)); clear hK; clear Kv)))
  refine open_ok s (hs.next hk.below) (fun w2 h2 => ?_)
  have hk := hk.next h2
  clear hb1 h2
  cases hv : validS s with
  | false =>
    repeat (any_goals (first
    | ((with_reducible refine local_desk' s ad s.bases.length c hk ?_); intro b7 W7 hk hb7 hg7)
    | (with_reducible first|refine pureM_in ?_|((refine idGd ?_); first|refine zA ?_|refine zB ?_|refine zC ?_|refine zD ?_|refine zE ?_|((refine idGdD ?_); first|refine zF ?_|refine zG ?_|refine zH (fun hg=>?_) fun hg=>?_|refine zI ?_|refine zJ ?_|refine zK (fun hg=>?_) fun hg=>?_)|((refine idGdN ?_); first|refine zL ?_|refine zM ?_|refine zN (fun hg=>?_) fun hg=>?_|refine zO ?_|refine zP ?_|refine zQ (fun hg=>?_) fun hg=>?_)|refine zR ?_|refine zS ?_|refine zT ?_|refine zU ?_|refine zV ?_|refine zW ?_|refine zX (fun hg=>?_) fun hg=>?_|refine zY ?_|refine zZ ?_|refine yA (fun hg=>?_) fun hg=>?_)|((refine idPick ?_); first|refine yB ?_|refine yC ?_|refine yD ?_|refine yE ?_|refine yF ?_|refine yG ?_|refine yH ?_|refine yI ?_|refine yJ ?_|refine yK ?_)|((refine idCond ?_); first|refine yL ?_|refine yM ?_|refine yN ?_|refine yO ?_|refine yP (fun hg=>?_) fun hg=>?_|refine yQ ?_|refine yR ?_|refine yS (fun hg=>?_) fun hg=>?_|refine yT ?_|refine yU ?_|refine yV (fun hg=>?_) fun hg=>?_|refine yW ?_|refine yX ?_|refine yY (fun hg=>?_) fun hg=>?_))
    | ((with_reducible refine idO ?_); (with_reducible refine oM_gen fun Kv hK=>?_); simp [go_sem, hk.cells]; (try simp (disch := omega) only [wrapI64, wrapU8, wrapU32, wrapU64]); (first|refine hK _ _ ?_|refine And.intro (by omega) (hK _ _ ?_)); clear hK; clear Kv)))
    exact k2 _ _ (by rw [hv]; rfl) hk.below
  | true =>
    repeat (any_goals (first
    | ((with_reducible refine local_desk' s ad s.bases.length c hk ?_); intro b7 W7 hk hb7 hg7) | ((with_reducible refine mk1 x hx ?_); intro v8 W8 hb8 hi)
    | (with_reducible first|refine pureM_in ?_|((refine idGd ?_); first|refine zA ?_|refine zB ?_|refine zC ?_|refine zD ?_|refine zE ?_|((refine idGdD ?_); first|refine zF ?_|refine zG ?_|refine zH (fun hg=>?_) fun hg=>?_|refine zI ?_|refine zJ ?_|refine zK (fun hg=>?_) fun hg=>?_)|((refine idGdN ?_); first|refine zL ?_|refine zM ?_|refine zN (fun hg=>?_) fun hg=>?_|refine zO ?_|refine zP ?_|refine zQ (fun hg=>?_) fun hg=>?_)|refine zR ?_|refine zS ?_|refine zT ?_|refine zU ?_|refine zV ?_|refine zW ?_|refine zX (fun hg=>?_) fun hg=>?_|refine zY ?_|refine zZ ?_|refine yA (fun hg=>?_) fun hg=>?_)|((refine idPick ?_); first|refine yB ?_|refine yC ?_|refine yD ?_|refine yE ?_|refine yF ?_|refine yG ?_|refine yH ?_|refine yI ?_|refine yJ ?_|refine yK ?_)|((refine idCond ?_); first|refine yL ?_|refine yM ?_|refine yN ?_|refine yO ?_|refine yP (fun hg=>?_) fun hg=>?_|refine yQ ?_|refine yR ?_|refine yS (fun hg=>?_) fun hg=>?_|refine yT ?_|refine yU ?_|refine yV (fun hg=>?_) fun hg=>?_|refine yW ?_|refine yX ?_|refine yY (fun hg=>?_) fun hg=>?_))
    | ((with_reducible refine idO ?_); (with_reducible refine oM_gen fun Kv hK=>?_); simp [go_sem, hk.cells]; (try simp (disch := omega) only [wrapI64, wrapU8, wrapU32, wrapU64]); (first|refine hK _ _ ?_|refine And.intro (by omega) (hK _ _ ?_)); clear hK; clear Kv)))
    have hk := hk.next hb8
    refine nums_ok s 1 (hs.next hk.below) hi (fun w3 h3 => ?_)
    have hk := hk.next h3
    cases hn : numsM s 1 [x] with
    | false =>
      repeat (any_goals (first
      | (with_reducible first|refine pureM_in ?_|((refine idGd ?_); first|refine zA ?_|refine zB ?_|refine zC ?_|refine zD ?_|refine zE ?_|((refine idGdD ?_); first|refine zF ?_|refine zG ?_|refine zH (fun hg=>?_) fun hg=>?_|refine zI ?_|refine zJ ?_|refine zK (fun hg=>?_) fun hg=>?_)|((refine idGdN ?_); first|refine zL ?_|refine zM ?_|refine zN (fun hg=>?_) fun hg=>?_|refine zO ?_|refine zP ?_|refine zQ (fun hg=>?_) fun hg=>?_)|refine zR ?_|refine zS ?_|refine zT ?_|refine zU ?_|refine zV ?_|refine zW ?_|refine zX (fun hg=>?_) fun hg=>?_|refine zY ?_|refine zZ ?_|refine yA (fun hg=>?_) fun hg=>?_)|((refine idPick ?_); first|refine yB ?_|refine yC ?_|refine yD ?_|refine yE ?_|refine yF ?_|refine yG ?_|refine yH ?_|refine yI ?_|refine yJ ?_|refine yK ?_)|((refine idCond ?_); first|refine yL ?_|refine yM ?_|refine yN ?_|refine yO ?_|refine yP (fun hg=>?_) fun hg=>?_|refine yQ ?_|refine yR ?_|refine yS (fun hg=>?_) fun hg=>?_|refine yT ?_|refine yU ?_|refine yV (fun hg=>?_) fun hg=>?_|refine yW ?_|refine yX ?_|refine yY (fun hg=>?_) fun hg=>?_))
      | ((with_reducible refine idO ?_); (with_reducible refine oM_gen fun Kv hK=>?_); simp [go_sem, hk.cells]; (try simp (disch := omega) only [wrapI64, wrapU8, wrapU32, wrapU64]); (first|refine hK _ _ ?_|refine And.intro (by omega) (hK _ _ ?_)); clear hK; clear Kv)))
      exact k2 _ _ (by rw [hv, hn]; rfl) hk.below
    | true =>
      repeat (any_goals (first
      | (with_reducible first|refine pureM_in ?_|((refine idGd ?_); first|refine zA ?_|refine zB ?_|refine zC ?_|refine zD ?_|refine zE ?_|((refine idGdD ?_); first|refine zF ?_|refine zG ?_|refine zH (fun hg=>?_) fun hg=>?_|refine zI ?_|refine zJ ?_|refine zK (fun hg=>?_) fun hg=>?_)|((refine idGdN ?_); first|refine zL ?_|refine zM ?_|refine zN (fun hg=>?_) fun hg=>?_|refine zO ?_|refine zP ?_|refine zQ (fun hg=>?_) fun hg=>?_)|refine zR ?_|refine zS ?_|refine zT ?_|refine zU ?_|refine zV ?_|refine zW ?_|refine zX (fun hg=>?_) fun hg=>?_|refine zY ?_|refine zZ ?_|refine yA (fun hg=>?_) fun hg=>?_)|((refine idPick ?_); first|refine yB ?_|refine yC ?_|refine yD ?_|refine yE ?_|refine yF ?_|refine yG ?_|refine yH ?_|refine yI ?_|refine yJ ?_|refine yK ?_)|((refine idCond ?_); first|refine yL ?_|refine yM ?_|refine yN ?_|refine yO ?_|refine yP (fun hg=>?_) fun hg=>?_|refine yQ ?_|refine yR ?_|refine yS (fun hg=>?_) fun hg=>?_|refine yT ?_|refine yU ?_|refine yV (fun hg=>?_) fun hg=>?_|refine yW ?_|refine yX ?_|refine yY (fun hg=>?_) fun hg=>?_))
      | ((with_reducible refine idO ?_); (with_reducible refine oM_gen fun Kv hK=>?_); simp [go_sem, hk.cells]; (try simp (disch := omega) only [wrapI64, wrapU8, wrapU32, wrapU64]); (first|refine hK _ _ ?_|refine And.intro (by omega) (hK _ _ ?_)); clear hK; clear Kv)))
      refine generated_ok s x (hs.next hk.below) (fun w4 h4 => ?_)
      have hk := hk.next h4
      exact k2 _ _ (by rw [hv, hn]; rfl) hk.below
theorem Grant_ok (s : Stp) (x y z : Int) {v : Value} (hx : I64 x) (hy : I64 y) (hz : I64 z) (hs : SetR w s v) (k : ∀ w', Below w.heap.size w w' → K (.int .i64 (grantM s x y z)) w') : callM Tryz.prog 15 #[stpV s v, .int .i64 x, .int .i64 y, .int .i64 z] K w := by
  apply sh_15_ok
  unfold sh_15
  obtain ⟨ad, c, rfl⟩ := hs.ints.isSlice
  refine box_kn (cs := stpC s (.slice ad s.bases.length c)) rfl (.start w) fun b W hk hb1 hb => ?_
  have k2 : ∀ w' r, grantM s x y z = r → Below w.heap.size w w' → K (.int .i64 r) w' := fun w' r e hb => by rw [← e]; exact k w' hb
  clear k
  unfold grantM at k2
  repeat (any_goals (first
  | (with_reducible first|refine pureM_in ?_|((refine idGd ?_); first|refine zA ?_|refine zB ?_|refine zC ?_|refine zD ?_|refine zE ?_|((refine idGdD ?_); first|refine zF ?_|refine zG ?_|refine zH (fun hg=>?_) fun hg=>?_|refine zI ?_|refine zJ ?_|refine zK (fun hg=>?_) fun hg=>?_)|((refine idGdN ?_); first|refine zL ?_|refine zM ?_|refine zN (fun hg=>?_) fun hg=>?_|refine zO ?_|refine zP ?_|refine zQ (fun hg=>?_) fun hg=>?_)|refine zR ?_|refine zS ?_|refine zT ?_|refine zU ?_|refine zV ?_|refine zW ?_|refine zX (fun hg=>?_) fun hg=>?_|refine zY ?_|refine zZ ?_|refine yA (fun hg=>?_) fun hg=>?_)|((refine idPick ?_); first|refine yB ?_|refine yC ?_|refine yD ?_|refine yE ?_|refine yF ?_|refine yG ?_|refine yH ?_|refine yI ?_|refine yJ ?_|refine yK ?_)|((refine idCond ?_); first|refine yL ?_|refine yM ?_|refine yN ?_|refine yO ?_|refine yP (fun hg=>?_) fun hg=>?_|refine yQ ?_|refine yR ?_|refine yS (fun hg=>?_) fun hg=>?_|refine yT ?_|refine yU ?_|refine yV (fun hg=>?_) fun hg=>?_|refine yW ?_|refine yX ?_|refine yY (fun hg=>?_) fun hg=>?_))
  | ((with_reducible refine idO ?_); (with_reducible refine oM_gen fun Kv hK=>?_); simp [go_sem, hk.cells]; (try simp (disch := omega) only [wrapI64, wrapU8, wrapU32, wrapU64]); (first|refine hK _ _ ?_|refine And.intro (by omega) (hK _ _ ?_)); clear hK; clear Kv)))
  refine open_ok s (hs.next hk.below) (fun w2 h2 => ?_)
  have hk := hk.next h2
  clear hb1 h2
  cases hv : validS s with
  | false =>
    repeat (any_goals (first
    | ((with_reducible refine local_desk' s ad s.bases.length c hk ?_); intro b7 W7 hk hb7 hg7)
    | (with_reducible first|refine pureM_in ?_|((refine idGd ?_); first|refine zA ?_|refine zB ?_|refine zC ?_|refine zD ?_|refine zE ?_|((refine idGdD ?_); first|refine zF ?_|refine zG ?_|refine zH (fun hg=>?_) fun hg=>?_|refine zI ?_|refine zJ ?_|refine zK (fun hg=>?_) fun hg=>?_)|((refine idGdN ?_); first|refine zL ?_|refine zM ?_|refine zN (fun hg=>?_) fun hg=>?_|refine zO ?_|refine zP ?_|refine zQ (fun hg=>?_) fun hg=>?_)|refine zR ?_|refine zS ?_|refine zT ?_|refine zU ?_|refine zV ?_|refine zW ?_|refine zX (fun hg=>?_) fun hg=>?_|refine zY ?_|refine zZ ?_|refine yA (fun hg=>?_) fun hg=>?_)|((refine idPick ?_); first|refine yB ?_|refine yC ?_|refine yD ?_|refine yE ?_|refine yF ?_|refine yG ?_|refine yH ?_|refine yI ?_|refine yJ ?_|refine yK ?_)|((refine idCond ?_); first|refine yL ?_|refine yM ?_|refine yN ?_|refine yO ?_|refine yP (fun hg=>?_) fun hg=>?_|refine yQ ?_|refine yR ?_|refine yS (fun hg=>?_) fun hg=>?_|refine yT ?_|refine yU ?_|refine yV (fun hg=>?_) fun hg=>?_|refine yW ?_|refine yX ?_|refine yY (fun hg=>?_) fun hg=>?_))
    | ((with_reducible refine idO ?_); (with_reducible refine oM_gen fun Kv hK=>?_); simp [go_sem, hk.cells]; (try simp (disch := omega) only [wrapI64, wrapU8, wrapU32, wrapU64]); (first|refine hK _ _ ?_|refine And.intro (by omega) (hK _ _ ?_)); clear hK; clear Kv)))
    exact k2 _ _ (by rw [hv]; rfl) hk.below
  | true =>
    repeat (any_goals (first
    | ((with_reducible refine local_desk' s ad s.bases.length c hk ?_); intro b7 W7 hk hb7 hg7) | ((with_reducible refine mk1 x hx ?_); intro v8 W8 hb8 hi)
    | (with_reducible first|refine pureM_in ?_|((refine idGd ?_); first|refine zA ?_|refine zB ?_|refine zC ?_|refine zD ?_|refine zE ?_|((refine idGdD ?_); first|refine zF ?_|refine zG ?_|refine zH (fun hg=>?_) fun hg=>?_|refine zI ?_|refine zJ ?_|refine zK (fun hg=>?_) fun hg=>?_)|((refine idGdN ?_); first|refine zL ?_|refine zM ?_|refine zN (fun hg=>?_) fun hg=>?_|refine zO ?_|refine zP ?_|refine zQ (fun hg=>?_) fun hg=>?_)|refine zR ?_|refine zS ?_|refine zT ?_|refine zU ?_|refine zV ?_|refine zW ?_|refine zX (fun hg=>?_) fun hg=>?_|refine zY ?_|refine zZ ?_|refine yA (fun hg=>?_) fun hg=>?_)|((refine idPick ?_); first|refine yB ?_|refine yC ?_|refine yD ?_|refine yE ?_|refine yF ?_|refine yG ?_|refine yH ?_|refine yI ?_|refine yJ ?_|refine yK ?_)|((refine idCond ?_); first|refine yL ?_|refine yM ?_|refine yN ?_|refine yO ?_|refine yP (fun hg=>?_) fun hg=>?_|refine yQ ?_|refine yR ?_|refine yS (fun hg=>?_) fun hg=>?_|refine yT ?_|refine yU ?_|refine yV (fun hg=>?_) fun hg=>?_|refine yW ?_|refine yX ?_|refine yY (fun hg=>?_) fun hg=>?_))
    | ((with_reducible refine idO ?_); (with_reducible refine oM_gen fun Kv hK=>?_); simp [go_sem, hk.cells]; (try simp (disch := omega) only [wrapI64, wrapU8, wrapU32, wrapU64]); (first|refine hK _ _ ?_|refine And.intro (by omega) (hK _ _ ?_)); clear hK; clear Kv)))
    have hk := hk.next hb8
    refine nums_ok s 1 (hs.next hk.below) hi (fun w3 h3 => ?_)
    have hk := hk.next h3
    cases hn : numsM s 1 [x] with
    | false =>
      repeat (any_goals (first
      | (with_reducible first|refine pureM_in ?_|((refine idGd ?_); first|refine zA ?_|refine zB ?_|refine zC ?_|refine zD ?_|refine zE ?_|((refine idGdD ?_); first|refine zF ?_|refine zG ?_|refine zH (fun hg=>?_) fun hg=>?_|refine zI ?_|refine zJ ?_|refine zK (fun hg=>?_) fun hg=>?_)|((refine idGdN ?_); first|refine zL ?_|refine zM ?_|refine zN (fun hg=>?_) fun hg=>?_|refine zO ?_|refine zP ?_|refine zQ (fun hg=>?_) fun hg=>?_)|refine zR ?_|refine zS ?_|refine zT ?_|refine zU ?_|refine zV ?_|refine zW ?_|refine zX (fun hg=>?_) fun hg=>?_|refine zY ?_|refine zZ ?_|refine yA (fun hg=>?_) fun hg=>?_)|((refine idPick ?_); first|refine yB ?_|refine yC ?_|refine yD ?_|refine yE ?_|refine yF ?_|refine yG ?_|refine yH ?_|refine yI ?_|refine yJ ?_|refine yK ?_)|((refine idCond ?_); first|refine yL ?_|refine yM ?_|refine yN ?_|refine yO ?_|refine yP (fun hg=>?_) fun hg=>?_|refine yQ ?_|refine yR ?_|refine yS (fun hg=>?_) fun hg=>?_|refine yT ?_|refine yU ?_|refine yV (fun hg=>?_) fun hg=>?_|refine yW ?_|refine yX ?_|refine yY (fun hg=>?_) fun hg=>?_))
      | ((with_reducible refine idO ?_); (with_reducible refine oM_gen fun Kv hK=>?_); simp [go_sem, hk.cells]; (try simp (disch := omega) only [wrapI64, wrapU8, wrapU32, wrapU64]); (first|refine hK _ _ ?_|refine And.intro (by omega) (hK _ _ ?_)); clear hK; clear Kv)))
      exact k2 _ _ (by rw [hv, hn]; rfl) hk.below
    | true =>
      repeat (any_goals (first
      | ((with_reducible refine mk2 y z hy hz ?_); intro v9 W9 hb9 hi)
      | (with_reducible first|refine pureM_in ?_|((refine idGd ?_); first|refine zA ?_|refine zB ?_|refine zC ?_|refine zD ?_|refine zE ?_|((refine idGdD ?_); first|refine zF ?_|refine zG ?_|refine zH (fun hg=>?_) fun hg=>?_|refine zI ?_|refine zJ ?_|refine zK (fun hg=>?_) fun hg=>?_)|((refine idGdN ?_); first|refine zL ?_|refine zM ?_|refine zN (fun hg=>?_) fun hg=>?_|refine zO ?_|refine zP ?_|refine zQ (fun hg=>?_) fun hg=>?_)|refine zR ?_|refine zS ?_|refine zT ?_|refine zU ?_|refine zV ?_|refine zW ?_|refine zX (fun hg=>?_) fun hg=>?_|refine zY ?_|refine zZ ?_|refine yA (fun hg=>?_) fun hg=>?_)|((refine idPick ?_); first|refine yB ?_|refine yC ?_|refine yD ?_|refine yE ?_|refine yF ?_|refine yG ?_|refine yH ?_|refine yI ?_|refine yJ ?_|refine yK ?_)|((refine idCond ?_); first|refine yL ?_|refine yM ?_|refine yN ?_|refine yO ?_|refine yP (fun hg=>?_) fun hg=>?_|refine yQ ?_|refine yR ?_|refine yS (fun hg=>?_) fun hg=>?_|refine yT ?_|refine yU ?_|refine yV (fun hg=>?_) fun hg=>?_|refine yW ?_|refine yX ?_|refine yY (fun hg=>?_) fun hg=>?_))
      | ((with_reducible refine idO ?_); (with_reducible refine oM_gen fun Kv hK=>?_); simp [go_sem, hk.cells]; (try simp (disch := omega) only [wrapI64, wrapU8, wrapU32, wrapU64]); (first|refine hK _ _ ?_|refine And.intro (by omega) (hK _ _ ?_)); clear hK; clear Kv)))
      have hk := hk.next hb9
      refine nums_ok s 0 (hs.next hk.below) hi (fun w4 h4 => ?_)
      have hk := hk.next h4
      cases hn2 : numsM s 0 [y, z] with
      | false =>
        repeat (any_goals (first
        | (with_reducible first|refine pureM_in ?_|((refine idGd ?_); first|refine zA ?_|refine zB ?_|refine zC ?_|refine zD ?_|refine zE ?_|((refine idGdD ?_); first|refine zF ?_|refine zG ?_|refine zH (fun hg=>?_) fun hg=>?_|refine zI ?_|refine zJ ?_|refine zK (fun hg=>?_) fun hg=>?_)|((refine idGdN ?_); first|refine zL ?_|refine zM ?_|refine zN (fun hg=>?_) fun hg=>?_|refine zO ?_|refine zP ?_|refine zQ (fun hg=>?_) fun hg=>?_)|refine zR ?_|refine zS ?_|refine zT ?_|refine zU ?_|refine zV ?_|refine zW ?_|refine zX (fun hg=>?_) fun hg=>?_|refine zY ?_|refine zZ ?_|refine yA (fun hg=>?_) fun hg=>?_)|((refine idPick ?_); first|refine yB ?_|refine yC ?_|refine yD ?_|refine yE ?_|refine yF ?_|refine yG ?_|refine yH ?_|refine yI ?_|refine yJ ?_|refine yK ?_)|((refine idCond ?_); first|refine yL ?_|refine yM ?_|refine yN ?_|refine yO ?_|refine yP (fun hg=>?_) fun hg=>?_|refine yQ ?_|refine yR ?_|refine yS (fun hg=>?_) fun hg=>?_|refine yT ?_|refine yU ?_|refine yV (fun hg=>?_) fun hg=>?_|refine yW ?_|refine yX ?_|refine yY (fun hg=>?_) fun hg=>?_))
        | ((with_reducible refine idO ?_); (with_reducible refine oM_gen fun Kv hK=>?_); simp [go_sem, hk.cells]; (try simp (disch := omega) only [wrapI64, wrapU8, wrapU32, wrapU64]); (first|refine hK _ _ ?_|refine And.intro (by omega) (hK _ _ ?_)); clear hK; clear Kv)))
        exact k2 _ _ (by rw [hv, hn, hn2]; rfl) hk.below
      | true =>
        repeat (any_goals (first
        | (with_reducible first|refine pureM_in ?_|((refine idGd ?_); first|refine zA ?_|refine zB ?_|refine zC ?_|refine zD ?_|refine zE ?_|((refine idGdD ?_); first|refine zF ?_|refine zG ?_|refine zH (fun hg=>?_) fun hg=>?_|refine zI ?_|refine zJ ?_|refine zK (fun hg=>?_) fun hg=>?_)|((refine idGdN ?_); first|refine zL ?_|refine zM ?_|refine zN (fun hg=>?_) fun hg=>?_|refine zO ?_|refine zP ?_|refine zQ (fun hg=>?_) fun hg=>?_)|refine zR ?_|refine zS ?_|refine zT ?_|refine zU ?_|refine zV ?_|refine zW ?_|refine zX (fun hg=>?_) fun hg=>?_|refine zY ?_|refine zZ ?_|refine yA (fun hg=>?_) fun hg=>?_)|((refine idPick ?_); first|refine yB ?_|refine yC ?_|refine yD ?_|refine yE ?_|refine yF ?_|refine yG ?_|refine yH ?_|refine yI ?_|refine yJ ?_|refine yK ?_)|((refine idCond ?_); first|refine yL ?_|refine yM ?_|refine yN ?_|refine yO ?_|refine yP (fun hg=>?_) fun hg=>?_|refine yQ ?_|refine yR ?_|refine yS (fun hg=>?_) fun hg=>?_|refine yT ?_|refine yU ?_|refine yV (fun hg=>?_) fun hg=>?_|refine yW ?_|refine yX ?_|refine yY (fun hg=>?_) fun hg=>?_))
        | ((with_reducible refine idO ?_); (with_reducible refine oM_gen fun Kv hK=>?_); simp [go_sem, hk.cells]; (try simp (disch := omega) only [wrapI64, wrapU8, wrapU32, wrapU64]); (first|refine hK _ _ ?_|refine And.intro (by omega) (hK _ _ ?_)); clear hK; clear Kv)))
        refine ⟨Kn w _, hk.drew, ?_⟩
        have hk := hk.drew
        repeat (any_goals (first
        | ((with_reducible refine mk1 x hx ?_); intro v9 W9 hb9 hi)
        | (with_reducible first|refine pureM_in ?_|refine pureQ_in ?_|refine pureH_in ?_|((refine idGdQ ?_); refine gdQ_conv fun _=>?_)|((refine idGdH ?_); refine gdH_conv fun _=>?_)|refine And.intro (Eq.refl (α := World) _) ?_|refine forall_one ?_|((refine idGd ?_); first|refine zA ?_|refine zB ?_|refine zC ?_|refine zD ?_|refine zE ?_|((refine idGdD ?_); first|refine zF ?_|refine zG ?_|refine zH (fun hg=>?_) fun hg=>?_|refine zI ?_|refine zJ ?_|refine zK (fun hg=>?_) fun hg=>?_)|((refine idGdN ?_); first|refine zL ?_|refine zM ?_|refine zN (fun hg=>?_) fun hg=>?_|refine zO ?_|refine zP ?_|refine zQ (fun hg=>?_) fun hg=>?_)|refine zR ?_|refine zS ?_|refine zT ?_|refine zU ?_|refine zV ?_|refine zW ?_|refine zX (fun hg=>?_) fun hg=>?_|refine zY ?_|refine zZ ?_|refine yA (fun hg=>?_) fun hg=>?_)|((refine idPick ?_); first|refine yB ?_|refine yC ?_|refine yD ?_|refine yE ?_|refine yF ?_|refine yG ?_|refine yH ?_|refine yI ?_|refine yJ ?_|refine yK ?_)|((refine idCond ?_); first|refine yL ?_|refine yM ?_|refine yN ?_|refine yO ?_|refine yP (fun hg=>?_) fun hg=>?_|refine yQ ?_|refine yR ?_|refine yS (fun hg=>?_) fun hg=>?_|refine yT ?_|refine yU ?_|refine yV (fun hg=>?_) fun hg=>?_|refine yW ?_|refine yX ?_|refine yY (fun hg=>?_) fun hg=>?_))
        | ((with_reducible refine idOQ ?_); first|(with_reducible first|refine wA ?_|refine wB ?_|refine wC ?_|refine wD ?_|refine wE ?_|refine wF ?_|refine oQ_nil ?_)|((with_reducible refine oQ_one ?_ ?_); exact ⟨_, rfl⟩)|(with_reducible refine oQ_of ⟨_, rfl⟩ (fun W0 hW0 => by (refine oM_gen (fun Kv hK => ?_)); simp [go_sem, hW0.cells]; (first | exact hK _ _ ⟨rfl, rfl⟩ | exact ⟨by omega, hK _ _ ⟨rfl, rfl⟩⟩)) ?_))
        | ((with_reducible refine idOH ?_); first|(with_reducible first|refine vA ?_|refine vB ?_|refine vC ?_|refine vD ?_|refine vE ?_|refine vF ?_|refine oH_nil ?_)|(with_reducible refine oH_of ⟨_, rfl⟩ (fun W0 hW0 => by (refine oM_gen (fun Kv hK => ?_)); simp [go_sem, hW0.cells]; (first | exact hK _ _ ⟨rfl, rfl⟩ | exact ⟨by omega, hK _ _ ⟨rfl, rfl⟩⟩)) ?_))
        | ((with_reducible refine idO ?_); (with_reducible refine oM_gen fun Kv hK=>?_); simp [go_sem, hk.cells]; (try simp (disch := omega) only [wrapI64, wrapU8, wrapU32, wrapU64]); (first|refine hK _ _ ?_|refine And.intro (by omega) (hK _ _ ?_)); clear hK; clear Kv)))
        have hk := hk.next hb9
        refine ⟨hk, mul_ok s z (hs.next hk.below) hi (fun w5 h5 => ?_)⟩
        have hk := hk.next h5
        refine ⟨hk, plus_ok s _ y (hs.next hk.below) (fun w6 h6 => ?_)⟩
        have hk := hk.next h6
        exact ⟨hk, hk, k2 _ _ (by rw [hv, hn, hn2]; rfl) hk.below⟩
end
end Go.Proofs
--G
namespace Go.Proofs
open Go Go.Sh Go.RowKit FdSpec TkSpec
set_option linter.unusedSimpArgs false
set_option linter.unusedVariables false
set_option maxRecDepth 10000
section
variable {K : Value → World → Prop} {w w0 : World} {L : List (Addr × Value)}
@[reducible] def offV (o : Off) : Value := .agg #[.int .i64 o.z, .int .i64 o.a, .int .i64 o.b]
@[reducible] def tktV (t : Tkt) : Value := .agg #[.int .i64 t.mark, .int .i64 t.first, .int .i64 t.z, .int .i64 t.a, .int .i64 t.b, .int .i64 t.r]
@[reducible] def tktC (t : Tkt) : List Value := [.int .i64 t.mark, .int .i64 t.first, .int .i64 t.z, .int .i64 t.a, .int .i64 t.b, .int .i64 t.r]
@[reducible] def bldV (b : Bld) (v : Value) : Value := .agg #[.int .i64 b.s, .int .i64 b.u, .int .i64 b.v, v]
@[reducible] def bldC (b : Bld) (v : Value) : List Value := [.int .i64 b.s, .int .i64 b.u, .int .i64 b.v, v]
@[reducible] def spdV (x : Spd) (v : Value) : Value := .agg #[.int .i64 x.dare, v]
@[reducible] def spdC (x : Spd) (v : Value) : List Value := [.int .i64 x.dare, v]
structure TktR (t : Tkt) : Prop where
  mark : I64 t.mark
  first : I64 t.first
  z : I64 t.z
  a : I64 t.a
  b : I64 t.b
  r : I64 t.r
structure BldR (w : World) (b : Bld) (bv : Value) : Prop where
  s : I64 b.s
  u : I64 b.u
  v : I64 b.v
  ys : Ints w bv b.ys
structure SpdR (w : World) (x : Spd) (v : Value) : Prop where
  dare : I64 x.dare
  answers : Ints w v x.answers
theorem BldR.next {w w' : World} {b : Bld} {v : Value} (h : BldR w b v) (hb : Below w.heap.size w w') : BldR w' b v := ⟨h.s, h.u, h.v, h.ys.next hb⟩
theorem SpdR.next {w w' : World} {x : Spd} {v : Value} (h : SpdR w x v) (hb : Below w.heap.size w w') : SpdR w' x v := ⟨h.dare, h.answers.next hb⟩
theorem sz_off (w : World) : (sizeOf 39).run Tryz.prog w = .ok 3 w := by kernel_rfl
theorem al_off (w : World) : (Instr.alloc 39 true (.tuple #[])).run Tryz.prog w = .ok (.pointer (some ⟨w.heap.size, 0, none⟩)) (w.alloc (.cells [.int .i64 0, .int .i64 0, .int .i64 0].toArray 39)) := by kernel_rfl
theorem off_one (o : Off) : ∀ u ∈ [Value.int .i64 o.z, .int .i64 o.a, .int .i64 o.b], u.oneCell' = true := by
  intro u hu
  simp only [List.mem_cons, List.not_mem_nil, or_false] at hu
  rcases hu with rfl | rfl | rfl <;> rfl
theorem store_off {K : Value → World → Prop} {T' : TypeId} {g : Nat} (o : Off) (hk : KnM w0 L g 3 w)
    (k : ∀ W, KnM w0 L g 3 W → cellsAre W (cellsOf [] g 0 [.int .i64 o.z, .int .i64 o.a, .int .i64 o.b]) → K undef W) : oM Tryz.prog (.store 39 (.tmp 0) (.tmp 1)) T' [.pointer (some ⟨g, 0, none⟩), offV o] K w :=
  store_mine sz_off rfl rfl (off_one o) hk k
theorem propose_no {s : Stp} {x : Int} {l : List Int} {y : Int} (h : (usableM s l).2 = false ∨ numsM s 1 [x] = false ∨ numsM s 0 [y] = false) : proposeM s x l y = (⟨0, 0, 0⟩, 1) := by
  unfold proposeM
  rw [if_neg]
  rcases h with h | h | h <;> simp [h]
theorem Propose_ok (s : Stp) (x y : Int) {v lv : Value} {l : List Int} (hx : I64 x) (hy : I64 y) (hs : SetR w s v) (hl : Ints w lv l) (k : ∀ w', Below w.heap.size w w' → K (.tuple #[offV (proposeM s x l y).1, .int .i64 (proposeM s x l y).2]) w') : callM Tryz.prog 14 #[stpV s v, .int .i64 x, lv, .int .i64 y] K w := by
  apply sh_14_ok
  unfold sh_14
  obtain ⟨ad, c, rfl⟩ := hs.ints.isSlice
  have k2 : ∀ w' r, proposeM s x l y = r → Below w.heap.size w w' → K (.tuple #[offV r.1, .int .i64 r.2]) w' := fun w' r e hb => by rw [← e]; exact k w' hb
  clear k
  refine box_kn (cs := stpC s (.slice ad s.bases.length c)) rfl (.start w) fun b W hk hb1 hb => ?_
  refine alloc_mine al_off rfl hk fun g W2 hk hb2 hg => ?_
  repeat (any_goals (first
  | (with_reducible first|refine pureM_in ?_|((refine idGd ?_); first|refine zA ?_|refine zB ?_|refine zC ?_|refine zD ?_|refine zE ?_|((refine idGdD ?_); first|refine zF ?_|refine zG ?_|refine zH (fun hg=>?_) fun hg=>?_|refine zI ?_|refine zJ ?_|refine zK (fun hg=>?_) fun hg=>?_)|((refine idGdN ?_); first|refine zL ?_|refine zM ?_|refine zN (fun hg=>?_) fun hg=>?_|refine zO ?_|refine zP ?_|refine zQ (fun hg=>?_) fun hg=>?_)|refine zR ?_|refine zS ?_|refine zT ?_|refine zU ?_|refine zV ?_|refine zW ?_|refine zX (fun hg=>?_) fun hg=>?_|refine zY ?_|refine zZ ?_|refine yA (fun hg=>?_) fun hg=>?_)|((refine idPick ?_); first|refine yB ?_|refine yC ?_|refine yD ?_|refine yE ?_|refine yF ?_|refine yG ?_|refine yH ?_|refine yI ?_|refine yJ ?_|refine yK ?_)|((refine idCond ?_); first|refine yL ?_|refine yM ?_|refine yN ?_|refine yO ?_|refine yP (fun hg=>?_) fun hg=>?_|refine yQ ?_|refine yR ?_|refine yS (fun hg=>?_) fun hg=>?_|refine yT ?_|refine yU ?_|refine yV (fun hg=>?_) fun hg=>?_|refine yW ?_|refine yX ?_|refine yY (fun hg=>?_) fun hg=>?_))
  | ((with_reducible refine idO ?_); (with_reducible refine oM_gen fun Kv hK=>?_); simp [go_sem, hk.cells]; (try simp (disch := omega) only [wrapI64, wrapU8, wrapU32, wrapU64]); (first|refine hK _ _ ?_|refine And.intro (by omega) (hK _ _ ?_)); clear hK; clear Kv)))
  refine usable_ok s (hs.next hk.below) (hl.next hk.below) (fun w2 h2 => ?_)
  have hk := hk.next h2
  clear hb1 h2 hb2
  obtain ⟨⟨m, u⟩, hm⟩ : ∃ x, usableM s l = x := ⟨_, rfl⟩
  rw [hm]
  cases u with
  | false =>
    repeat (any_goals (first
    | ((with_reducible refine local_desk s ad s.bases.length c hk ?_); intro b7 W7 hk hb7 hg7)
    | (with_reducible first|refine pureM_in ?_|((refine idGd ?_); first|refine zA ?_|refine zB ?_|refine zC ?_|refine zD ?_|refine zE ?_|((refine idGdD ?_); first|refine zF ?_|refine zG ?_|refine zH (fun hg=>?_) fun hg=>?_|refine zI ?_|refine zJ ?_|refine zK (fun hg=>?_) fun hg=>?_)|((refine idGdN ?_); first|refine zL ?_|refine zM ?_|refine zN (fun hg=>?_) fun hg=>?_|refine zO ?_|refine zP ?_|refine zQ (fun hg=>?_) fun hg=>?_)|refine zR ?_|refine zS ?_|refine zT ?_|refine zU ?_|refine zV ?_|refine zW ?_|refine zX (fun hg=>?_) fun hg=>?_|refine zY ?_|refine zZ ?_|refine yA (fun hg=>?_) fun hg=>?_)|((refine idPick ?_); first|refine yB ?_|refine yC ?_|refine yD ?_|refine yE ?_|refine yF ?_|refine yG ?_|refine yH ?_|refine yI ?_|refine yJ ?_|refine yK ?_)|((refine idCond ?_); first|refine yL ?_|refine yM ?_|refine yN ?_|refine yO ?_|refine yP (fun hg=>?_) fun hg=>?_|refine yQ ?_|refine yR ?_|refine yS (fun hg=>?_) fun hg=>?_|refine yT ?_|refine yU ?_|refine yV (fun hg=>?_) fun hg=>?_|refine yW ?_|refine yX ?_|refine yY (fun hg=>?_) fun hg=>?_))
    | ((with_reducible refine idO ?_); (with_reducible refine oM_gen fun Kv hK=>?_); simp [go_sem, hk.cells]; (try simp (disch := omega) only [wrapI64, wrapU8, wrapU32, wrapU64]); (first|refine hK _ _ ?_|refine And.intro (by omega) (hK _ _ ?_)); clear hK; clear Kv)))
    refine store_off ⟨0, 0, 0⟩ hk (fun W3 hk hc => ⟨_, by simp [go_sem, hc], k2 _ _ (propose_no (.inl (by rw [hm]))) hk.below⟩)
  | true =>
    repeat (any_goals (first
    | ((with_reducible refine local_desk s ad s.bases.length c hk ?_); intro b7 W7 hk hb7 hg7) | ((with_reducible refine mk1 x hx ?_); intro v8 W8 hb8 hi)
    | (with_reducible first|refine pureM_in ?_|((refine idGd ?_); first|refine zA ?_|refine zB ?_|refine zC ?_|refine zD ?_|refine zE ?_|((refine idGdD ?_); first|refine zF ?_|refine zG ?_|refine zH (fun hg=>?_) fun hg=>?_|refine zI ?_|refine zJ ?_|refine zK (fun hg=>?_) fun hg=>?_)|((refine idGdN ?_); first|refine zL ?_|refine zM ?_|refine zN (fun hg=>?_) fun hg=>?_|refine zO ?_|refine zP ?_|refine zQ (fun hg=>?_) fun hg=>?_)|refine zR ?_|refine zS ?_|refine zT ?_|refine zU ?_|refine zV ?_|refine zW ?_|refine zX (fun hg=>?_) fun hg=>?_|refine zY ?_|refine zZ ?_|refine yA (fun hg=>?_) fun hg=>?_)|((refine idPick ?_); first|refine yB ?_|refine yC ?_|refine yD ?_|refine yE ?_|refine yF ?_|refine yG ?_|refine yH ?_|refine yI ?_|refine yJ ?_|refine yK ?_)|((refine idCond ?_); first|refine yL ?_|refine yM ?_|refine yN ?_|refine yO ?_|refine yP (fun hg=>?_) fun hg=>?_|refine yQ ?_|refine yR ?_|refine yS (fun hg=>?_) fun hg=>?_|refine yT ?_|refine yU ?_|refine yV (fun hg=>?_) fun hg=>?_|refine yW ?_|refine yX ?_|refine yY (fun hg=>?_) fun hg=>?_))
    | ((with_reducible refine idO ?_); (with_reducible refine oM_gen fun Kv hK=>?_); simp [go_sem, hk.cells]; (try simp (disch := omega) only [wrapI64, wrapU8, wrapU32, wrapU64]); (first|refine hK _ _ ?_|refine And.intro (by omega) (hK _ _ ?_)); clear hK; clear Kv)))
    have hk := hk.next hb8
    refine nums_ok s 1 (hs.next hk.below) hi (fun w3 h3 => ?_)
    have hk := hk.next h3
    cases hn : numsM s 1 [x] with
    | false =>
      repeat (any_goals (first
      | (with_reducible first|refine pureM_in ?_|((refine idGd ?_); first|refine zA ?_|refine zB ?_|refine zC ?_|refine zD ?_|refine zE ?_|((refine idGdD ?_); first|refine zF ?_|refine zG ?_|refine zH (fun hg=>?_) fun hg=>?_|refine zI ?_|refine zJ ?_|refine zK (fun hg=>?_) fun hg=>?_)|((refine idGdN ?_); first|refine zL ?_|refine zM ?_|refine zN (fun hg=>?_) fun hg=>?_|refine zO ?_|refine zP ?_|refine zQ (fun hg=>?_) fun hg=>?_)|refine zR ?_|refine zS ?_|refine zT ?_|refine zU ?_|refine zV ?_|refine zW ?_|refine zX (fun hg=>?_) fun hg=>?_|refine zY ?_|refine zZ ?_|refine yA (fun hg=>?_) fun hg=>?_)|((refine idPick ?_); first|refine yB ?_|refine yC ?_|refine yD ?_|refine yE ?_|refine yF ?_|refine yG ?_|refine yH ?_|refine yI ?_|refine yJ ?_|refine yK ?_)|((refine idCond ?_); first|refine yL ?_|refine yM ?_|refine yN ?_|refine yO ?_|refine yP (fun hg=>?_) fun hg=>?_|refine yQ ?_|refine yR ?_|refine yS (fun hg=>?_) fun hg=>?_|refine yT ?_|refine yU ?_|refine yV (fun hg=>?_) fun hg=>?_|refine yW ?_|refine yX ?_|refine yY (fun hg=>?_) fun hg=>?_))
      | ((with_reducible refine idO ?_); (with_reducible refine oM_gen fun Kv hK=>?_); simp [go_sem, hk.cells]; (try simp (disch := omega) only [wrapI64, wrapU8, wrapU32, wrapU64]); (first|refine hK _ _ ?_|refine And.intro (by omega) (hK _ _ ?_)); clear hK; clear Kv)))
      refine store_off ⟨0, 0, 0⟩ hk (fun W3 hk hc => ⟨_, by simp [go_sem, hc], k2 _ _ (propose_no (.inr (.inl hn))) hk.below⟩)
    | true =>
      repeat (any_goals (first
      | ((with_reducible refine mk1 y hy ?_); intro v9 W9 hb9 hi)
      | (with_reducible first|refine pureM_in ?_|((refine idGd ?_); first|refine zA ?_|refine zB ?_|refine zC ?_|refine zD ?_|refine zE ?_|((refine idGdD ?_); first|refine zF ?_|refine zG ?_|refine zH (fun hg=>?_) fun hg=>?_|refine zI ?_|refine zJ ?_|refine zK (fun hg=>?_) fun hg=>?_)|((refine idGdN ?_); first|refine zL ?_|refine zM ?_|refine zN (fun hg=>?_) fun hg=>?_|refine zO ?_|refine zP ?_|refine zQ (fun hg=>?_) fun hg=>?_)|refine zR ?_|refine zS ?_|refine zT ?_|refine zU ?_|refine zV ?_|refine zW ?_|refine zX (fun hg=>?_) fun hg=>?_|refine zY ?_|refine zZ ?_|refine yA (fun hg=>?_) fun hg=>?_)|((refine idPick ?_); first|refine yB ?_|refine yC ?_|refine yD ?_|refine yE ?_|refine yF ?_|refine yG ?_|refine yH ?_|refine yI ?_|refine yJ ?_|refine yK ?_)|((refine idCond ?_); first|refine yL ?_|refine yM ?_|refine yN ?_|refine yO ?_|refine yP (fun hg=>?_) fun hg=>?_|refine yQ ?_|refine yR ?_|refine yS (fun hg=>?_) fun hg=>?_|refine yT ?_|refine yU ?_|refine yV (fun hg=>?_) fun hg=>?_|refine yW ?_|refine yX ?_|refine yY (fun hg=>?_) fun hg=>?_))
      | ((with_reducible refine idO ?_); (with_reducible refine oM_gen fun Kv hK=>?_); simp [go_sem, hk.cells]; (try simp (disch := omega) only [wrapI64, wrapU8, wrapU32, wrapU64]); (first|refine hK _ _ ?_|refine And.intro (by omega) (hK _ _ ?_)); clear hK; clear Kv)))
      have hk := hk.next hb9
      refine nums_ok s 0 (hs.next hk.below) hi (fun w4 h4 => ?_)
      have hk := hk.next h4
      cases hn2 : numsM s 0 [y] with
      | false =>
        repeat (any_goals (first
        | (with_reducible first|refine pureM_in ?_|((refine idGd ?_); first|refine zA ?_|refine zB ?_|refine zC ?_|refine zD ?_|refine zE ?_|((refine idGdD ?_); first|refine zF ?_|refine zG ?_|refine zH (fun hg=>?_) fun hg=>?_|refine zI ?_|refine zJ ?_|refine zK (fun hg=>?_) fun hg=>?_)|((refine idGdN ?_); first|refine zL ?_|refine zM ?_|refine zN (fun hg=>?_) fun hg=>?_|refine zO ?_|refine zP ?_|refine zQ (fun hg=>?_) fun hg=>?_)|refine zR ?_|refine zS ?_|refine zT ?_|refine zU ?_|refine zV ?_|refine zW ?_|refine zX (fun hg=>?_) fun hg=>?_|refine zY ?_|refine zZ ?_|refine yA (fun hg=>?_) fun hg=>?_)|((refine idPick ?_); first|refine yB ?_|refine yC ?_|refine yD ?_|refine yE ?_|refine yF ?_|refine yG ?_|refine yH ?_|refine yI ?_|refine yJ ?_|refine yK ?_)|((refine idCond ?_); first|refine yL ?_|refine yM ?_|refine yN ?_|refine yO ?_|refine yP (fun hg=>?_) fun hg=>?_|refine yQ ?_|refine yR ?_|refine yS (fun hg=>?_) fun hg=>?_|refine yT ?_|refine yU ?_|refine yV (fun hg=>?_) fun hg=>?_|refine yW ?_|refine yX ?_|refine yY (fun hg=>?_) fun hg=>?_))
        | ((with_reducible refine idO ?_); (with_reducible refine oM_gen fun Kv hK=>?_); simp [go_sem, hk.cells]; (try simp (disch := omega) only [wrapI64, wrapU8, wrapU32, wrapU64]); (first|refine hK _ _ ?_|refine And.intro (by omega) (hK _ _ ?_)); clear hK; clear Kv)))
        refine store_off ⟨0, 0, 0⟩ hk (fun W3 hk hc => ⟨_, by simp [go_sem, hc], k2 _ _ (propose_no (.inr (.inr hn2))) hk.below⟩)
      | true =>
        have e : proposeM s x l y = (⟨powerG s.g m x, genM s y, powerG s.g m y⟩, 0) := by
          unfold proposeM
          rw [if_pos (by rw [hm, hn, hn2]; rfl), hm]
        repeat (any_goals (first
        | (with_reducible first|refine pureM_in ?_|((refine idGd ?_); first|refine zA ?_|refine zB ?_|refine zC ?_|refine zD ?_|refine zE ?_|((refine idGdD ?_); first|refine zF ?_|refine zG ?_|refine zH (fun hg=>?_) fun hg=>?_|refine zI ?_|refine zJ ?_|refine zK (fun hg=>?_) fun hg=>?_)|((refine idGdN ?_); first|refine zL ?_|refine zM ?_|refine zN (fun hg=>?_) fun hg=>?_|refine zO ?_|refine zP ?_|refine zQ (fun hg=>?_) fun hg=>?_)|refine zR ?_|refine zS ?_|refine zT ?_|refine zU ?_|refine zV ?_|refine zW ?_|refine zX (fun hg=>?_) fun hg=>?_|refine zY ?_|refine zZ ?_|refine yA (fun hg=>?_) fun hg=>?_)|((refine idPick ?_); first|refine yB ?_|refine yC ?_|refine yD ?_|refine yE ?_|refine yF ?_|refine yG ?_|refine yH ?_|refine yI ?_|refine yJ ?_|refine yK ?_)|((refine idCond ?_); first|refine yL ?_|refine yM ?_|refine yN ?_|refine yO ?_|refine yP (fun hg=>?_) fun hg=>?_|refine yQ ?_|refine yR ?_|refine yS (fun hg=>?_) fun hg=>?_|refine yT ?_|refine yU ?_|refine yV (fun hg=>?_) fun hg=>?_|refine yW ?_|refine yX ?_|refine yY (fun hg=>?_) fun hg=>?_))
        | ((with_reducible refine idO ?_); (with_reducible refine oM_gen fun Kv hK=>?_); simp [go_sem, hk.cells]; (try simp (disch := omega) only [wrapI64, wrapU8, wrapU32, wrapU64]); (first|refine hK _ _ ?_|refine And.intro (by omega) (hK _ _ ?_)); clear hK; clear Kv)))
        refine ⟨KnM w _ g 3, hk.drew, ?_⟩
        have hk := hk.drew
        repeat (any_goals (first
        | (with_reducible first|refine pureM_in ?_|refine pureQ_in ?_|refine pureH_in ?_|((refine idGdQ ?_); refine gdQ_conv fun _=>?_)|((refine idGdH ?_); refine gdH_conv fun _=>?_)|refine And.intro (Eq.refl (α := World) _) ?_|refine forall_one ?_|((refine idGd ?_); first|refine zA ?_|refine zB ?_|refine zC ?_|refine zD ?_|refine zE ?_|((refine idGdD ?_); first|refine zF ?_|refine zG ?_|refine zH (fun hg=>?_) fun hg=>?_|refine zI ?_|refine zJ ?_|refine zK (fun hg=>?_) fun hg=>?_)|((refine idGdN ?_); first|refine zL ?_|refine zM ?_|refine zN (fun hg=>?_) fun hg=>?_|refine zO ?_|refine zP ?_|refine zQ (fun hg=>?_) fun hg=>?_)|refine zR ?_|refine zS ?_|refine zT ?_|refine zU ?_|refine zV ?_|refine zW ?_|refine zX (fun hg=>?_) fun hg=>?_|refine zY ?_|refine zZ ?_|refine yA (fun hg=>?_) fun hg=>?_)|((refine idPick ?_); first|refine yB ?_|refine yC ?_|refine yD ?_|refine yE ?_|refine yF ?_|refine yG ?_|refine yH ?_|refine yI ?_|refine yJ ?_|refine yK ?_)|((refine idCond ?_); first|refine yL ?_|refine yM ?_|refine yN ?_|refine yO ?_|refine yP (fun hg=>?_) fun hg=>?_|refine yQ ?_|refine yR ?_|refine yS (fun hg=>?_) fun hg=>?_|refine yT ?_|refine yU ?_|refine yV (fun hg=>?_) fun hg=>?_|refine yW ?_|refine yX ?_|refine yY (fun hg=>?_) fun hg=>?_))
        | ((with_reducible refine idOQ ?_); first|(with_reducible first|refine wA ?_|refine wB ?_|refine wC ?_|refine wD ?_|refine wE ?_|refine wF ?_|refine oQ_nil ?_)|((with_reducible refine oQ_one ?_ ?_); exact ⟨_, rfl⟩)|(with_reducible refine oQ_of ⟨_, rfl⟩ (fun W0 hW0 => by (refine oM_gen (fun Kv hK => ?_)); simp [go_sem, hW0.cells]; (first | exact hK _ _ ⟨rfl, rfl⟩ | exact ⟨by omega, hK _ _ ⟨rfl, rfl⟩⟩)) ?_))
        | ((with_reducible refine idOH ?_); first|(with_reducible first|refine vA ?_|refine vB ?_|refine vC ?_|refine vD ?_|refine vE ?_|refine vF ?_|refine oH_nil ?_)|(with_reducible refine oH_of ⟨_, rfl⟩ (fun W0 hW0 => by (refine oM_gen (fun Kv hK => ?_)); simp [go_sem, hW0.cells]; (first | exact hK _ _ ⟨rfl, rfl⟩ | exact ⟨by omega, hK _ _ ⟨rfl, rfl⟩⟩)) ?_))
        | ((with_reducible refine idO ?_); (with_reducible refine oM_gen fun Kv hK=>?_); simp [go_sem, hk.cells]; (try simp (disch := omega) only [wrapI64, wrapU8, wrapU32, wrapU64]); (first|refine hK _ _ ?_|refine And.intro (by omega) (hK _ _ ?_)); clear hK; clear Kv)))
        refine tpower_ok s m x (hs.next hk.below) (fun w5 h5 => ?_)
        have hk := hk.next h5
        refine ⟨hk, generated_ok s y (hs.next hk.below) (fun w6 h6 => ?_)⟩
        have hk := hk.next h6
        refine ⟨hk, tpower_ok s m y (hs.next hk.below) (fun w7 h7 => ?_)⟩
        have hk := hk.next h7
        refine ⟨hk, ?_⟩
        generalize powerG s.g m x = p1 at *
        generalize genM s y = p2 at *
        generalize powerG s.g m y = p3 at *
        repeat (any_goals (first
        | (with_reducible first|refine pureM_in ?_|((refine idGd ?_); first|refine zA ?_|refine zB ?_|refine zC ?_|refine zD ?_|refine zE ?_|((refine idGdD ?_); first|refine zF ?_|refine zG ?_|refine zH (fun hg=>?_) fun hg=>?_|refine zI ?_|refine zJ ?_|refine zK (fun hg=>?_) fun hg=>?_)|((refine idGdN ?_); first|refine zL ?_|refine zM ?_|refine zN (fun hg=>?_) fun hg=>?_|refine zO ?_|refine zP ?_|refine zQ (fun hg=>?_) fun hg=>?_)|refine zR ?_|refine zS ?_|refine zT ?_|refine zU ?_|refine zV ?_|refine zW ?_|refine zX (fun hg=>?_) fun hg=>?_|refine zY ?_|refine zZ ?_|refine yA (fun hg=>?_) fun hg=>?_)|((refine idPick ?_); first|refine yB ?_|refine yC ?_|refine yD ?_|refine yE ?_|refine yF ?_|refine yG ?_|refine yH ?_|refine yI ?_|refine yJ ?_|refine yK ?_)|((refine idCond ?_); first|refine yL ?_|refine yM ?_|refine yN ?_|refine yO ?_|refine yP (fun hg=>?_) fun hg=>?_|refine yQ ?_|refine yR ?_|refine yS (fun hg=>?_) fun hg=>?_|refine yT ?_|refine yU ?_|refine yV (fun hg=>?_) fun hg=>?_|refine yW ?_|refine yX ?_|refine yY (fun hg=>?_) fun hg=>?_))
        | ((with_reducible refine idO ?_); (with_reducible refine oM_gen fun Kv hK=>?_); simp [go_sem]; (try simp (disch := omega) only [wrapI64, wrapU8, wrapU32, wrapU64]); (first|refine hK _ _ ?_|refine And.intro (by omega) (hK _ _ ?_)); clear hK; clear Kv)))
        refine ⟨hk, store_off ⟨p1, p2, p3⟩ hk (fun W3 hk hc => ⟨hk, hk, _, by simp [go_sem, hc], k2 _ _ e hk.below⟩)⟩
theorem blinds_ok (s : Stp) (b : Bld) {v bv : Value} (hs : SetR w s v) (hb : BldR w b bv) (k : ∀ w', Below w.heap.size w w' → K (.bool (blindsM s b)) w') : callM Tryz.prog 71 #[stpV s v, bldV b bv] K w := by
  apply sh_71_ok
  unfold sh_71
  obtain ⟨ad, c, rfl⟩ := hs.ints.isSlice
  have hys := hb.ys
  obtain ⟨yad, yc, rfl⟩ := hb.ys.isSlice
  have k2 : ∀ w' r, blindsM s b = r → Below w.heap.size w w' → K (.bool r) w' := fun w' r e hb => by rw [← e]; exact k w' hb
  clear k
  unfold blindsM at k2
  refine box_kn (cs := stpC s (.slice ad s.bases.length c)) rfl (.start w) fun b1 W hk hb1 hbb => ?_
  refine box_kn (cs := bldC b (.slice yad b.ys.length yc)) rfl hk fun b2 W2 hk hb2 hbb => ?_
  repeat (any_goals (first
  | ((with_reducible refine mk2 b.s b.u hb.s hb.u ?_); intro v8 W8 hb8 hi)
  | (with_reducible first|refine pureM_in ?_|((refine idGd ?_); first|refine zA ?_|refine zB ?_|refine zC ?_|refine zD ?_|refine zE ?_|((refine idGdD ?_); first|refine zF ?_|refine zG ?_|refine zH (fun hg=>?_) fun hg=>?_|refine zI ?_|refine zJ ?_|refine zK (fun hg=>?_) fun hg=>?_)|((refine idGdN ?_); first|refine zL ?_|refine zM ?_|refine zN (fun hg=>?_) fun hg=>?_|refine zO ?_|refine zP ?_|refine zQ (fun hg=>?_) fun hg=>?_)|refine zR ?_|refine zS ?_|refine zT ?_|refine zU ?_|refine zV ?_|refine zW ?_|refine zX (fun hg=>?_) fun hg=>?_|refine zY ?_|refine zZ ?_|refine yA (fun hg=>?_) fun hg=>?_)|((refine idPick ?_); first|refine yB ?_|refine yC ?_|refine yD ?_|refine yE ?_|refine yF ?_|refine yG ?_|refine yH ?_|refine yI ?_|refine yJ ?_|refine yK ?_)|((refine idCond ?_); first|refine yL ?_|refine yM ?_|refine yN ?_|refine yO ?_|refine yP (fun hg=>?_) fun hg=>?_|refine yQ ?_|refine yR ?_|refine yS (fun hg=>?_) fun hg=>?_|refine yT ?_|refine yU ?_|refine yV (fun hg=>?_) fun hg=>?_|refine yW ?_|refine yX ?_|refine yY (fun hg=>?_) fun hg=>?_))
  | ((with_reducible refine idO ?_); (with_reducible refine oM_gen fun Kv hK=>?_); simp [go_sem, hk.cells]; (try simp (disch := omega) only [wrapI64, wrapU8, wrapU32, wrapU64]); (first|refine hK _ _ ?_|refine And.intro (by omega) (hK _ _ ?_)); clear hK; clear Kv)))
  have hk := hk.next hb8
  refine nums_ok s 1 (hs.next hk.below) hi (fun w3 h3 => ?_)
  have hk := hk.next h3
  cases hn : numsM s 1 [b.s, b.u] with
  | false =>
    repeat (any_goals (first
    | (with_reducible first|refine pureM_in ?_|((refine idGd ?_); first|refine zA ?_|refine zB ?_|refine zC ?_|refine zD ?_|refine zE ?_|((refine idGdD ?_); first|refine zF ?_|refine zG ?_|refine zH (fun hg=>?_) fun hg=>?_|refine zI ?_|refine zJ ?_|refine zK (fun hg=>?_) fun hg=>?_)|((refine idGdN ?_); first|refine zL ?_|refine zM ?_|refine zN (fun hg=>?_) fun hg=>?_|refine zO ?_|refine zP ?_|refine zQ (fun hg=>?_) fun hg=>?_)|refine zR ?_|refine zS ?_|refine zT ?_|refine zU ?_|refine zV ?_|refine zW ?_|refine zX (fun hg=>?_) fun hg=>?_|refine zY ?_|refine zZ ?_|refine yA (fun hg=>?_) fun hg=>?_)|((refine idPick ?_); first|refine yB ?_|refine yC ?_|refine yD ?_|refine yE ?_|refine yF ?_|refine yG ?_|refine yH ?_|refine yI ?_|refine yJ ?_|refine yK ?_)|((refine idCond ?_); first|refine yL ?_|refine yM ?_|refine yN ?_|refine yO ?_|refine yP (fun hg=>?_) fun hg=>?_|refine yQ ?_|refine yR ?_|refine yS (fun hg=>?_) fun hg=>?_|refine yT ?_|refine yU ?_|refine yV (fun hg=>?_) fun hg=>?_|refine yW ?_|refine yX ?_|refine yY (fun hg=>?_) fun hg=>?_))
    | ((with_reducible refine idO ?_); (with_reducible refine oM_gen fun Kv hK=>?_); simp [go_sem, hk.cells]; (try simp (disch := omega) only [wrapI64, wrapU8, wrapU32, wrapU64]); (first|refine hK _ _ ?_|refine And.intro (by omega) (hK _ _ ?_)); clear hK; clear Kv)))
    exact k2 _ _ (by rw [hn]; rfl) hk.below
  | true =>
    repeat (any_goals (first
    | ((with_reducible refine mk1 b.v hb.v ?_); intro v9 W9 hb9 hi)
    | (with_reducible first|refine pureM_in ?_|((refine idGd ?_); first|refine zA ?_|refine zB ?_|refine zC ?_|refine zD ?_|refine zE ?_|((refine idGdD ?_); first|refine zF ?_|refine zG ?_|refine zH (fun hg=>?_) fun hg=>?_|refine zI ?_|refine zJ ?_|refine zK (fun hg=>?_) fun hg=>?_)|((refine idGdN ?_); first|refine zL ?_|refine zM ?_|refine zN (fun hg=>?_) fun hg=>?_|refine zO ?_|refine zP ?_|refine zQ (fun hg=>?_) fun hg=>?_)|refine zR ?_|refine zS ?_|refine zT ?_|refine zU ?_|refine zV ?_|refine zW ?_|refine zX (fun hg=>?_) fun hg=>?_|refine zY ?_|refine zZ ?_|refine yA (fun hg=>?_) fun hg=>?_)|((refine idPick ?_); first|refine yB ?_|refine yC ?_|refine yD ?_|refine yE ?_|refine yF ?_|refine yG ?_|refine yH ?_|refine yI ?_|refine yJ ?_|refine yK ?_)|((refine idCond ?_); first|refine yL ?_|refine yM ?_|refine yN ?_|refine yO ?_|refine yP (fun hg=>?_) fun hg=>?_|refine yQ ?_|refine yR ?_|refine yS (fun hg=>?_) fun hg=>?_|refine yT ?_|refine yU ?_|refine yV (fun hg=>?_) fun hg=>?_|refine yW ?_|refine yX ?_|refine yY (fun hg=>?_) fun hg=>?_))
    | ((with_reducible refine idO ?_); (with_reducible refine oM_gen fun Kv hK=>?_); simp [go_sem, hk.cells]; (try simp (disch := omega) only [wrapI64, wrapU8, wrapU32, wrapU64]); (first|refine hK _ _ ?_|refine And.intro (by omega) (hK _ _ ?_)); clear hK; clear Kv)))
    have hk := hk.next hb9
    refine nums_ok s 0 (hs.next hk.below) hi (fun w4 h4 => ?_)
    have hk := hk.next h4
    cases hn2 : numsM s 0 [b.v] with
    | false =>
      repeat (any_goals (first
      | (with_reducible first|refine pureM_in ?_|((refine idGd ?_); first|refine zA ?_|refine zB ?_|refine zC ?_|refine zD ?_|refine zE ?_|((refine idGdD ?_); first|refine zF ?_|refine zG ?_|refine zH (fun hg=>?_) fun hg=>?_|refine zI ?_|refine zJ ?_|refine zK (fun hg=>?_) fun hg=>?_)|((refine idGdN ?_); first|refine zL ?_|refine zM ?_|refine zN (fun hg=>?_) fun hg=>?_|refine zO ?_|refine zP ?_|refine zQ (fun hg=>?_) fun hg=>?_)|refine zR ?_|refine zS ?_|refine zT ?_|refine zU ?_|refine zV ?_|refine zW ?_|refine zX (fun hg=>?_) fun hg=>?_|refine zY ?_|refine zZ ?_|refine yA (fun hg=>?_) fun hg=>?_)|((refine idPick ?_); first|refine yB ?_|refine yC ?_|refine yD ?_|refine yE ?_|refine yF ?_|refine yG ?_|refine yH ?_|refine yI ?_|refine yJ ?_|refine yK ?_)|((refine idCond ?_); first|refine yL ?_|refine yM ?_|refine yN ?_|refine yO ?_|refine yP (fun hg=>?_) fun hg=>?_|refine yQ ?_|refine yR ?_|refine yS (fun hg=>?_) fun hg=>?_|refine yT ?_|refine yU ?_|refine yV (fun hg=>?_) fun hg=>?_|refine yW ?_|refine yX ?_|refine yY (fun hg=>?_) fun hg=>?_))
      | ((with_reducible refine idO ?_); (with_reducible refine oM_gen fun Kv hK=>?_); simp [go_sem, hk.cells]; (try simp (disch := omega) only [wrapI64, wrapU8, wrapU32, wrapU64]); (first|refine hK _ _ ?_|refine And.intro (by omega) (hK _ _ ?_)); clear hK; clear Kv)))
      exact k2 _ _ (by rw [hn, hn2]; rfl) hk.below
    | true =>
      by_cases hlen : b.ys.length = s.bases.length
      · repeat (any_goals (first
        | (with_reducible first|refine pureM_in ?_|((refine idGd ?_); first|refine zA ?_|refine zB ?_|refine zC ?_|refine zD ?_|refine zE ?_|((refine idGdD ?_); first|refine zF ?_|refine zG ?_|refine zH (fun hg=>?_) fun hg=>?_|refine zI ?_|refine zJ ?_|refine zK (fun hg=>?_) fun hg=>?_)|((refine idGdN ?_); first|refine zL ?_|refine zM ?_|refine zN (fun hg=>?_) fun hg=>?_|refine zO ?_|refine zP ?_|refine zQ (fun hg=>?_) fun hg=>?_)|refine zR ?_|refine zS ?_|refine zT ?_|refine zU ?_|refine zV ?_|refine zW ?_|refine zX (fun hg=>?_) fun hg=>?_|refine zY ?_|refine zZ ?_|refine yA (fun hg=>?_) fun hg=>?_)|((refine idPick ?_); first|refine yB ?_|refine yC ?_|refine yD ?_|refine yE ?_|refine yF ?_|refine yG ?_|refine yH ?_|refine yI ?_|refine yJ ?_|refine yK ?_)|((refine idCond ?_); first|refine yL ?_|refine yM ?_|refine yN ?_|refine yO ?_|refine yP (fun hg=>?_) fun hg=>?_|refine yQ ?_|refine yR ?_|refine yS (fun hg=>?_) fun hg=>?_|refine yT ?_|refine yU ?_|refine yV (fun hg=>?_) fun hg=>?_|refine yW ?_|refine yX ?_|refine yY (fun hg=>?_) fun hg=>?_))
        | ((with_reducible refine idO ?_); (with_reducible refine oM_gen fun Kv hK=>?_); simp [go_sem, hk.cells, hlen]; (try simp (disch := omega) only [wrapI64, wrapU8, wrapU32, wrapU64]); (first|refine hK _ _ ?_|refine And.intro (by omega) (hK _ _ ?_)); clear hK; clear Kv)))
        have hys2 : Ints w (.slice yad s.bases.length yc) b.ys := by rw [← hlen]; exact hys
        refine nums_ok s 0 (hs.next hk.below) (hys2.next hk.below) (fun w5 h5 => ?_)
        have hk := hk.next h5
        repeat (any_goals (first
        | (with_reducible first|refine pureM_in ?_|((refine idGd ?_); first|refine zA ?_|refine zB ?_|refine zC ?_|refine zD ?_|refine zE ?_|((refine idGdD ?_); first|refine zF ?_|refine zG ?_|refine zH (fun hg=>?_) fun hg=>?_|refine zI ?_|refine zJ ?_|refine zK (fun hg=>?_) fun hg=>?_)|((refine idGdN ?_); first|refine zL ?_|refine zM ?_|refine zN (fun hg=>?_) fun hg=>?_|refine zO ?_|refine zP ?_|refine zQ (fun hg=>?_) fun hg=>?_)|refine zR ?_|refine zS ?_|refine zT ?_|refine zU ?_|refine zV ?_|refine zW ?_|refine zX (fun hg=>?_) fun hg=>?_|refine zY ?_|refine zZ ?_|refine yA (fun hg=>?_) fun hg=>?_)|((refine idPick ?_); first|refine yB ?_|refine yC ?_|refine yD ?_|refine yE ?_|refine yF ?_|refine yG ?_|refine yH ?_|refine yI ?_|refine yJ ?_|refine yK ?_)|((refine idCond ?_); first|refine yL ?_|refine yM ?_|refine yN ?_|refine yO ?_|refine yP (fun hg=>?_) fun hg=>?_|refine yQ ?_|refine yR ?_|refine yS (fun hg=>?_) fun hg=>?_|refine yT ?_|refine yU ?_|refine yV (fun hg=>?_) fun hg=>?_|refine yW ?_|refine yX ?_|refine yY (fun hg=>?_) fun hg=>?_))
        | ((with_reducible refine idO ?_); (with_reducible refine oM_gen fun Kv hK=>?_); simp [go_sem]; (try simp (disch := omega) only [wrapI64, wrapU8, wrapU32, wrapU64]); (first|refine hK _ _ ?_|refine And.intro (by omega) (hK _ _ ?_)); clear hK; clear Kv)))
        exact k2 _ _ (by rw [hn, hn2]; simp [hlen]) hk.below
      · have hl' : ¬ (b.ys.length : Int) = s.bases.length := by omega
        repeat (any_goals (first
        | (with_reducible first|refine pureM_in ?_|((refine idGd ?_); first|refine zA ?_|refine zB ?_|refine zC ?_|refine zD ?_|refine zE ?_|((refine idGdD ?_); first|refine zF ?_|refine zG ?_|refine zH (fun hg=>?_) fun hg=>?_|refine zI ?_|refine zJ ?_|refine zK (fun hg=>?_) fun hg=>?_)|((refine idGdN ?_); first|refine zL ?_|refine zM ?_|refine zN (fun hg=>?_) fun hg=>?_|refine zO ?_|refine zP ?_|refine zQ (fun hg=>?_) fun hg=>?_)|refine zR ?_|refine zS ?_|refine zT ?_|refine zU ?_|refine zV ?_|refine zW ?_|refine zX (fun hg=>?_) fun hg=>?_|refine zY ?_|refine zZ ?_|refine yA (fun hg=>?_) fun hg=>?_)|((refine idPick ?_); first|refine yB ?_|refine yC ?_|refine yD ?_|refine yE ?_|refine yF ?_|refine yG ?_|refine yH ?_|refine yI ?_|refine yJ ?_|refine yK ?_)|((refine idCond ?_); first|refine yL ?_|refine yM ?_|refine yN ?_|refine yO ?_|refine yP (fun hg=>?_) fun hg=>?_|refine yQ ?_|refine yR ?_|refine yS (fun hg=>?_) fun hg=>?_|refine yT ?_|refine yU ?_|refine yV (fun hg=>?_) fun hg=>?_|refine yW ?_|refine yX ?_|refine yY (fun hg=>?_) fun hg=>?_))
        | ((with_reducible refine idO ?_); (with_reducible refine oM_gen fun Kv hK=>?_); simp [go_sem, hk.cells, hl']; (try simp (disch := omega) only [wrapI64, wrapU8, wrapU32, wrapU64]); (first|refine hK _ _ ?_|refine And.intro (by omega) (hK _ _ ?_)); clear hK; clear Kv)))
        exact k2 _ _ (by rw [hn, hn2]; simp [hlen]) hk.below
end
end Go.Proofs
--G
namespace Go.Proofs
open Go Go.Sh Go.RowKit FdSpec TkSpec
set_option linter.unusedSimpArgs false
set_option linter.unusedVariables false
set_option maxRecDepth 10000
section
variable {K : Value → World → Prop} {w w0 : World} {L : List (Addr × Value)}
theorem formed_ok (s : Stp) (t : Tkt) {v : Value} (ht : TktR t) (hs : SetR w s v) (k : ∀ w', Below w.heap.size w w' → K (.tuple #[stpV s v, .bool (formedM s t)]) w') : callM Tryz.prog 124 #[stpV s v, tktV t] K w := by
  apply sh_124_ok
  unfold sh_124
  obtain ⟨ad, c, rfl⟩ := hs.ints.isSlice
  have k2 : ∀ w' r, formedM s t = r → Below w.heap.size w w' → K (.tuple #[stpV s (.slice ad s.bases.length c), .bool r]) w' := fun w' r e hb => by rw [← e]; exact k w' hb
  clear k
  unfold formedM at k2
  refine box_kn (cs := stpC s (.slice ad s.bases.length c)) rfl (.start w) fun b1 W hk hb1 hbb => ?_
  refine box_kn (cs := tktC t) rfl hk fun b2 W2 hk hb2 hbb => ?_
  refine alloc_mine (n := 5) al_desk rfl hk fun g W2 hk hb2 hg => ?_
  repeat (any_goals (first
  | (with_reducible first|refine pureM_in ?_|refine pureQ_in ?_|refine pureH_in ?_|((refine idGdQ ?_); refine gdQ_conv fun _=>?_)|((refine idGdH ?_); refine gdH_conv fun _=>?_)|refine And.intro (Eq.refl (α := World) _) ?_|refine forall_one ?_|((refine idGd ?_); first|refine zA ?_|refine zB ?_|refine zC ?_|refine zD ?_|refine zE ?_|((refine idGdD ?_); first|refine zF ?_|refine zG ?_|refine zH (fun hg=>?_) fun hg=>?_|refine zI ?_|refine zJ ?_|refine zK (fun hg=>?_) fun hg=>?_)|((refine idGdN ?_); first|refine zL ?_|refine zM ?_|refine zN (fun hg=>?_) fun hg=>?_|refine zO ?_|refine zP ?_|refine zQ (fun hg=>?_) fun hg=>?_)|refine zR ?_|refine zS ?_|refine zT ?_|refine zU ?_|refine zV ?_|refine zW ?_|refine zX (fun hg=>?_) fun hg=>?_|refine zY ?_|refine zZ ?_|refine yA (fun hg=>?_) fun hg=>?_)|((refine idPick ?_); first|refine yB ?_|refine yC ?_|refine yD ?_|refine yE ?_|refine yF ?_|refine yG ?_|refine yH ?_|refine yI ?_|refine yJ ?_|refine yK ?_)|((refine idCond ?_); first|refine yL ?_|refine yM ?_|refine yN ?_|refine yO ?_|refine yP (fun hg=>?_) fun hg=>?_|refine yQ ?_|refine yR ?_|refine yS (fun hg=>?_) fun hg=>?_|refine yT ?_|refine yU ?_|refine yV (fun hg=>?_) fun hg=>?_|refine yW ?_|refine yX ?_|refine yY (fun hg=>?_) fun hg=>?_))
  | ((with_reducible refine idOQ ?_); first|(with_reducible first|refine wA ?_|refine wB ?_|refine wC ?_|refine wD ?_|refine wE ?_|refine wF ?_|refine oQ_nil ?_)|((with_reducible refine oQ_one ?_ ?_); exact ⟨_, rfl⟩)|(with_reducible refine oQ_of ⟨_, rfl⟩ (fun W0 hW0 => by (refine oM_gen (fun Kv hK => ?_)); simp [go_sem]; (first | exact hK _ _ ⟨rfl, rfl⟩ | exact ⟨by omega, hK _ _ ⟨rfl, rfl⟩⟩)) ?_))
  | ((with_reducible refine idOH ?_); first|(with_reducible first|refine vA ?_|refine vB ?_|refine vC ?_|refine vD ?_|refine vE ?_|refine vF ?_|refine oH_nil ?_)|(with_reducible refine oH_of ⟨_, rfl⟩ (fun W0 hW0 => by (refine oM_gen (fun Kv hK => ?_)); simp [go_sem]; (first | exact hK _ _ ⟨rfl, rfl⟩ | exact ⟨by omega, hK _ _ ⟨rfl, rfl⟩⟩)) ?_))
  | ((with_reducible refine idO ?_); (with_reducible refine oM_gen fun Kv hK=>?_); simp [go_sem, hk.cells]; (try simp (disch := omega) only [wrapI64, wrapU8, wrapU32, wrapU64]); (first|refine hK _ _ ?_|refine And.intro (by omega) (hK _ _ ?_)); clear hK; clear Kv)))
  refine open_ok s (hs.next hk.below) (fun w2 h2 => ?_)
  have hk := hk.next h2
  clear hb1 h2 hb2
  cases hv : validS s with
  | false =>
    repeat (any_goals (first
    | ((with_reducible refine local_desk s ad s.bases.length c hk ?_); intro b7 W7 hk hb7 hg7)
    | (with_reducible first|refine pureM_in ?_|refine pureQ_in ?_|refine pureH_in ?_|((refine idGdQ ?_); refine gdQ_conv fun _=>?_)|((refine idGdH ?_); refine gdH_conv fun _=>?_)|refine And.intro (Eq.refl (α := World) _) ?_|refine forall_one ?_|((refine idGd ?_); first|refine zA ?_|refine zB ?_|refine zC ?_|refine zD ?_|refine zE ?_|((refine idGdD ?_); first|refine zF ?_|refine zG ?_|refine zH (fun hg=>?_) fun hg=>?_|refine zI ?_|refine zJ ?_|refine zK (fun hg=>?_) fun hg=>?_)|((refine idGdN ?_); first|refine zL ?_|refine zM ?_|refine zN (fun hg=>?_) fun hg=>?_|refine zO ?_|refine zP ?_|refine zQ (fun hg=>?_) fun hg=>?_)|refine zR ?_|refine zS ?_|refine zT ?_|refine zU ?_|refine zV ?_|refine zW ?_|refine zX (fun hg=>?_) fun hg=>?_|refine zY ?_|refine zZ ?_|refine yA (fun hg=>?_) fun hg=>?_)|((refine idPick ?_); first|refine yB ?_|refine yC ?_|refine yD ?_|refine yE ?_|refine yF ?_|refine yG ?_|refine yH ?_|refine yI ?_|refine yJ ?_|refine yK ?_)|((refine idCond ?_); first|refine yL ?_|refine yM ?_|refine yN ?_|refine yO ?_|refine yP (fun hg=>?_) fun hg=>?_|refine yQ ?_|refine yR ?_|refine yS (fun hg=>?_) fun hg=>?_|refine yT ?_|refine yU ?_|refine yV (fun hg=>?_) fun hg=>?_|refine yW ?_|refine yX ?_|refine yY (fun hg=>?_) fun hg=>?_))
    | ((with_reducible refine idOQ ?_); first|(with_reducible first|refine wA ?_|refine wB ?_|refine wC ?_|refine wD ?_|refine wE ?_|refine wF ?_|refine oQ_nil ?_)|((with_reducible refine oQ_one ?_ ?_); exact ⟨_, rfl⟩)|(with_reducible refine oQ_of ⟨_, rfl⟩ (fun W0 hW0 => by (refine oM_gen (fun Kv hK => ?_)); simp [go_sem]; (first | exact hK _ _ ⟨rfl, rfl⟩ | exact ⟨by omega, hK _ _ ⟨rfl, rfl⟩⟩)) ?_))
    | ((with_reducible refine idOH ?_); first|(with_reducible first|refine vA ?_|refine vB ?_|refine vC ?_|refine vD ?_|refine vE ?_|refine vF ?_|refine oH_nil ?_)|(with_reducible refine oH_of ⟨_, rfl⟩ (fun W0 hW0 => by (refine oM_gen (fun Kv hK => ?_)); simp [go_sem]; (first | exact hK _ _ ⟨rfl, rfl⟩ | exact ⟨by omega, hK _ _ ⟨rfl, rfl⟩⟩)) ?_))
    | ((with_reducible refine idO ?_); (with_reducible refine oM_gen fun Kv hK=>?_); simp [go_sem, hk.cells]; (try simp (disch := omega) only [wrapI64, wrapU8, wrapU32, wrapU64]); (first|refine hK _ _ ?_|refine And.intro (by omega) (hK _ _ ?_)); clear hK; clear Kv)))
    refine ⟨KnM w _ g 5, hk.drew, ?_⟩
    have hk := hk.drew
    repeat (any_goals (first
    | (with_reducible refine And.intro hk ?_)
    | (with_reducible first|refine pureM_in ?_|refine pureQ_in ?_|refine pureH_in ?_|((refine idGdQ ?_); refine gdQ_conv fun _=>?_)|((refine idGdH ?_); refine gdH_conv fun _=>?_)|refine And.intro (Eq.refl (α := World) _) ?_|refine forall_one ?_|((refine idGd ?_); first|refine zA ?_|refine zB ?_|refine zC ?_|refine zD ?_|refine zE ?_|((refine idGdD ?_); first|refine zF ?_|refine zG ?_|refine zH (fun hg=>?_) fun hg=>?_|refine zI ?_|refine zJ ?_|refine zK (fun hg=>?_) fun hg=>?_)|((refine idGdN ?_); first|refine zL ?_|refine zM ?_|refine zN (fun hg=>?_) fun hg=>?_|refine zO ?_|refine zP ?_|refine zQ (fun hg=>?_) fun hg=>?_)|refine zR ?_|refine zS ?_|refine zT ?_|refine zU ?_|refine zV ?_|refine zW ?_|refine zX (fun hg=>?_) fun hg=>?_|refine zY ?_|refine zZ ?_|refine yA (fun hg=>?_) fun hg=>?_)|((refine idPick ?_); first|refine yB ?_|refine yC ?_|refine yD ?_|refine yE ?_|refine yF ?_|refine yG ?_|refine yH ?_|refine yI ?_|refine yJ ?_|refine yK ?_)|((refine idCond ?_); first|refine yL ?_|refine yM ?_|refine yN ?_|refine yO ?_|refine yP (fun hg=>?_) fun hg=>?_|refine yQ ?_|refine yR ?_|refine yS (fun hg=>?_) fun hg=>?_|refine yT ?_|refine yU ?_|refine yV (fun hg=>?_) fun hg=>?_|refine yW ?_|refine yX ?_|refine yY (fun hg=>?_) fun hg=>?_))
    | ((with_reducible refine idOQ ?_); first|(with_reducible first|refine wA ?_|refine wB ?_|refine wC ?_|refine wD ?_|refine wE ?_|refine wF ?_|refine oQ_nil ?_)|((with_reducible refine oQ_one ?_ ?_); exact ⟨_, rfl⟩)|(with_reducible refine oQ_of ⟨_, rfl⟩ (fun W0 hW0 => by (refine oM_gen (fun Kv hK => ?_)); simp [go_sem, hW0.cells]; (first | exact hK _ _ ⟨rfl, rfl⟩ | exact ⟨by omega, hK _ _ ⟨rfl, rfl⟩⟩)) ?_))
    | ((with_reducible refine idOH ?_); first|(with_reducible first|refine vA ?_|refine vB ?_|refine vC ?_|refine vD ?_|refine vE ?_|refine vF ?_|refine oH_nil ?_)|(with_reducible refine oH_of ⟨_, rfl⟩ (fun W0 hW0 => by (refine oM_gen (fun Kv hK => ?_)); simp [go_sem, hW0.cells]; (first | exact hK _ _ ⟨rfl, rfl⟩ | exact ⟨by omega, hK _ _ ⟨rfl, rfl⟩⟩)) ?_))
    | ((with_reducible refine idO ?_); (with_reducible refine oM_gen fun Kv hK=>?_); simp [go_sem]; (try simp (disch := omega) only [wrapI64, wrapU8, wrapU32, wrapU64]); (first|refine hK _ _ ?_|refine And.intro (by omega) (hK _ _ ?_)); clear hK; clear Kv)))
    exact store_desk s ad _ c hk (fun W3 hk hc => ⟨hk, hk, _, by simp [go_sem, hc], k2 _ _ (by rw [hv]; rfl) hk.below⟩)
  | true =>
    repeat (any_goals (first
    | ((with_reducible refine local_desk s ad s.bases.length c hk ?_); intro b7 W7 hk hb7 hg7)
    | (with_reducible first|refine pureM_in ?_|refine pureQ_in ?_|refine pureH_in ?_|((refine idGdQ ?_); refine gdQ_conv fun _=>?_)|((refine idGdH ?_); refine gdH_conv fun _=>?_)|refine And.intro (Eq.refl (α := World) _) ?_|refine forall_one ?_|((refine idGd ?_); first|refine zA ?_|refine zB ?_|refine zC ?_|refine zD ?_|refine zE ?_|((refine idGdD ?_); first|refine zF ?_|refine zG ?_|refine zH (fun hg=>?_) fun hg=>?_|refine zI ?_|refine zJ ?_|refine zK (fun hg=>?_) fun hg=>?_)|((refine idGdN ?_); first|refine zL ?_|refine zM ?_|refine zN (fun hg=>?_) fun hg=>?_|refine zO ?_|refine zP ?_|refine zQ (fun hg=>?_) fun hg=>?_)|refine zR ?_|refine zS ?_|refine zT ?_|refine zU ?_|refine zV ?_|refine zW ?_|refine zX (fun hg=>?_) fun hg=>?_|refine zY ?_|refine zZ ?_|refine yA (fun hg=>?_) fun hg=>?_)|((refine idPick ?_); first|refine yB ?_|refine yC ?_|refine yD ?_|refine yE ?_|refine yF ?_|refine yG ?_|refine yH ?_|refine yI ?_|refine yJ ?_|refine yK ?_)|((refine idCond ?_); first|refine yL ?_|refine yM ?_|refine yN ?_|refine yO ?_|refine yP (fun hg=>?_) fun hg=>?_|refine yQ ?_|refine yR ?_|refine yS (fun hg=>?_) fun hg=>?_|refine yT ?_|refine yU ?_|refine yV (fun hg=>?_) fun hg=>?_|refine yW ?_|refine yX ?_|refine yY (fun hg=>?_) fun hg=>?_))
    | ((with_reducible refine idOQ ?_); first|(with_reducible first|refine wA ?_|refine wB ?_|refine wC ?_|refine wD ?_|refine wE ?_|refine wF ?_|refine oQ_nil ?_)|((with_reducible refine oQ_one ?_ ?_); exact ⟨_, rfl⟩)|(with_reducible refine oQ_of ⟨_, rfl⟩ (fun W0 hW0 => by (refine oM_gen (fun Kv hK => ?_)); simp [go_sem]; (first | exact hK _ _ ⟨rfl, rfl⟩ | exact ⟨by omega, hK _ _ ⟨rfl, rfl⟩⟩)) ?_))
    | ((with_reducible refine idOH ?_); first|(with_reducible first|refine vA ?_|refine vB ?_|refine vC ?_|refine vD ?_|refine vE ?_|refine vF ?_|refine oH_nil ?_)|(with_reducible refine oH_of ⟨_, rfl⟩ (fun W0 hW0 => by (refine oM_gen (fun Kv hK => ?_)); simp [go_sem]; (first | exact hK _ _ ⟨rfl, rfl⟩ | exact ⟨by omega, hK _ _ ⟨rfl, rfl⟩⟩)) ?_))
    | ((with_reducible refine idO ?_); (with_reducible refine oM_gen fun Kv hK=>?_); simp [go_sem, hk.cells]; (try simp (disch := omega) only [wrapI64, wrapU8, wrapU32, wrapU64]); (first|refine hK _ _ ?_|refine And.intro (by omega) (hK _ _ ?_)); clear hK; clear Kv)))
    refine ⟨KnM w _ g 5, hk.drew, ?_⟩
    have hk := hk.drew
    by_cases hm : t.mark = 1
    · repeat (any_goals (first
      | (with_reducible refine And.intro hk ?_)
      | (with_reducible first|refine pureM_in ?_|refine pureQ_in ?_|refine pureH_in ?_|((refine idGdQ ?_); refine gdQ_conv fun _=>?_)|((refine idGdH ?_); refine gdH_conv fun _=>?_)|refine And.intro (Eq.refl (α := World) _) ?_|refine forall_one ?_|((refine idGd ?_); first|refine zA ?_|refine zB ?_|refine zC ?_|refine zD ?_|refine zE ?_|((refine idGdD ?_); first|refine zF ?_|refine zG ?_|refine zH (fun hg=>?_) fun hg=>?_|refine zI ?_|refine zJ ?_|refine zK (fun hg=>?_) fun hg=>?_)|((refine idGdN ?_); first|refine zL ?_|refine zM ?_|refine zN (fun hg=>?_) fun hg=>?_|refine zO ?_|refine zP ?_|refine zQ (fun hg=>?_) fun hg=>?_)|refine zR ?_|refine zS ?_|refine zT ?_|refine zU ?_|refine zV ?_|refine zW ?_|refine zX (fun hg=>?_) fun hg=>?_|refine zY ?_|refine zZ ?_|refine yA (fun hg=>?_) fun hg=>?_)|((refine idPick ?_); first|refine yB ?_|refine yC ?_|refine yD ?_|refine yE ?_|refine yF ?_|refine yG ?_|refine yH ?_|refine yI ?_|refine yJ ?_|refine yK ?_)|((refine idCond ?_); first|refine yL ?_|refine yM ?_|refine yN ?_|refine yO ?_|refine yP (fun hg=>?_) fun hg=>?_|refine yQ ?_|refine yR ?_|refine yS (fun hg=>?_) fun hg=>?_|refine yT ?_|refine yU ?_|refine yV (fun hg=>?_) fun hg=>?_|refine yW ?_|refine yX ?_|refine yY (fun hg=>?_) fun hg=>?_))
      | ((with_reducible refine idOQ ?_); first|(with_reducible first|refine wA ?_|refine wB ?_|refine wC ?_|refine wD ?_|refine wE ?_|refine wF ?_|refine oQ_nil ?_)|((with_reducible refine oQ_one ?_ ?_); exact ⟨_, rfl⟩)|(with_reducible refine oQ_of ⟨_, rfl⟩ (fun W0 hW0 => by (refine oM_gen (fun Kv hK => ?_)); simp [go_sem, hW0.cells, hm]; (first | exact hK _ _ ⟨rfl, rfl⟩ | exact ⟨by omega, hK _ _ ⟨rfl, rfl⟩⟩)) ?_))
      | ((with_reducible refine idOH ?_); first|(with_reducible first|refine vA ?_|refine vB ?_|refine vC ?_|refine vD ?_|refine vE ?_|refine vF ?_|refine oH_nil ?_)|(with_reducible refine oH_of ⟨_, rfl⟩ (fun W0 hW0 => by (refine oM_gen (fun Kv hK => ?_)); simp [go_sem, hW0.cells, hm]; (first | exact hK _ _ ⟨rfl, rfl⟩ | exact ⟨by omega, hK _ _ ⟨rfl, rfl⟩⟩)) ?_))
      | ((with_reducible refine idO ?_); (with_reducible refine oM_gen fun Kv hK=>?_); simp [go_sem]; (try simp (disch := omega) only [wrapI64, wrapU8, wrapU32, wrapU64]); (first|refine hK _ _ ?_|refine And.intro (by omega) (hK _ _ ?_)); clear hK; clear Kv)))
      exact store_desk s ad _ c hk (fun W3 hk hc => ⟨hk, hk, _, by simp [go_sem, hc], k2 _ _ (by rw [hv, hm]; rfl) hk.below⟩)
    · repeat (any_goals (first
      | (with_reducible refine And.intro hk ?_)
      | ((with_reducible refine mk5 t.mark t.first t.z t.a t.b ht.mark ht.first ht.z ht.a ht.b ?_); intro v8 W8 hb8 hi)
      | (with_reducible first|refine pureM_in ?_|refine pureQ_in ?_|refine pureH_in ?_|((refine idGdQ ?_); refine gdQ_conv fun _=>?_)|((refine idGdH ?_); refine gdH_conv fun _=>?_)|refine And.intro (Eq.refl (α := World) _) ?_|refine forall_one ?_|((refine idGd ?_); first|refine zA ?_|refine zB ?_|refine zC ?_|refine zD ?_|refine zE ?_|((refine idGdD ?_); first|refine zF ?_|refine zG ?_|refine zH (fun hg=>?_) fun hg=>?_|refine zI ?_|refine zJ ?_|refine zK (fun hg=>?_) fun hg=>?_)|((refine idGdN ?_); first|refine zL ?_|refine zM ?_|refine zN (fun hg=>?_) fun hg=>?_|refine zO ?_|refine zP ?_|refine zQ (fun hg=>?_) fun hg=>?_)|refine zR ?_|refine zS ?_|refine zT ?_|refine zU ?_|refine zV ?_|refine zW ?_|refine zX (fun hg=>?_) fun hg=>?_|refine zY ?_|refine zZ ?_|refine yA (fun hg=>?_) fun hg=>?_)|((refine idPick ?_); first|refine yB ?_|refine yC ?_|refine yD ?_|refine yE ?_|refine yF ?_|refine yG ?_|refine yH ?_|refine yI ?_|refine yJ ?_|refine yK ?_)|((refine idCond ?_); first|refine yL ?_|refine yM ?_|refine yN ?_|refine yO ?_|refine yP (fun hg=>?_) fun hg=>?_|refine yQ ?_|refine yR ?_|refine yS (fun hg=>?_) fun hg=>?_|refine yT ?_|refine yU ?_|refine yV (fun hg=>?_) fun hg=>?_|refine yW ?_|refine yX ?_|refine yY (fun hg=>?_) fun hg=>?_))
      | ((with_reducible refine idOQ ?_); first|(with_reducible first|refine wA ?_|refine wB ?_|refine wC ?_|refine wD ?_|refine wE ?_|refine wF ?_|refine oQ_nil ?_)|((with_reducible refine oQ_one ?_ ?_); exact ⟨_, rfl⟩)|(with_reducible refine oQ_of ⟨_, rfl⟩ (fun W0 hW0 => by (refine oM_gen (fun Kv hK => ?_)); simp [go_sem, hW0.cells, hm]; (first | exact hK _ _ ⟨rfl, rfl⟩ | exact ⟨by omega, hK _ _ ⟨rfl, rfl⟩⟩)) ?_))
      | ((with_reducible refine idOH ?_); first|(with_reducible first|refine vA ?_|refine vB ?_|refine vC ?_|refine vD ?_|refine vE ?_|refine vF ?_|refine oH_nil ?_)|(with_reducible refine oH_of ⟨_, rfl⟩ (fun W0 hW0 => by (refine oM_gen (fun Kv hK => ?_)); simp [go_sem, hW0.cells, hm]; (first | exact hK _ _ ⟨rfl, rfl⟩ | exact ⟨by omega, hK _ _ ⟨rfl, rfl⟩⟩)) ?_))
      | ((with_reducible refine idO ?_); (with_reducible refine oM_gen fun Kv hK=>?_); simp [go_sem]; (try simp (disch := omega) only [wrapI64, wrapU8, wrapU32, wrapU64]); (first|refine hK _ _ ?_|refine And.intro (by omega) (hK _ _ ?_)); clear hK; clear Kv)))
      have hk := hk.next hb8
      refine ⟨hk, elements_ok s (hs.next hk.below) hi (fun w3 h3 => ?_)⟩
      have hk := hk.next h3
      refine ⟨hk, ?_⟩
      cases he : elementsM s [t.mark, t.first, t.z, t.a, t.b] with
      | false =>
        repeat (any_goals (first
        | (with_reducible refine And.intro hk ?_)
        | (with_reducible first|refine pureM_in ?_|refine pureQ_in ?_|refine pureH_in ?_|((refine idGdQ ?_); refine gdQ_conv fun _=>?_)|((refine idGdH ?_); refine gdH_conv fun _=>?_)|refine And.intro (Eq.refl (α := World) _) ?_|refine forall_one ?_|((refine idGd ?_); first|refine zA ?_|refine zB ?_|refine zC ?_|refine zD ?_|refine zE ?_|((refine idGdD ?_); first|refine zF ?_|refine zG ?_|refine zH (fun hg=>?_) fun hg=>?_|refine zI ?_|refine zJ ?_|refine zK (fun hg=>?_) fun hg=>?_)|((refine idGdN ?_); first|refine zL ?_|refine zM ?_|refine zN (fun hg=>?_) fun hg=>?_|refine zO ?_|refine zP ?_|refine zQ (fun hg=>?_) fun hg=>?_)|refine zR ?_|refine zS ?_|refine zT ?_|refine zU ?_|refine zV ?_|refine zW ?_|refine zX (fun hg=>?_) fun hg=>?_|refine zY ?_|refine zZ ?_|refine yA (fun hg=>?_) fun hg=>?_)|((refine idPick ?_); first|refine yB ?_|refine yC ?_|refine yD ?_|refine yE ?_|refine yF ?_|refine yG ?_|refine yH ?_|refine yI ?_|refine yJ ?_|refine yK ?_)|((refine idCond ?_); first|refine yL ?_|refine yM ?_|refine yN ?_|refine yO ?_|refine yP (fun hg=>?_) fun hg=>?_|refine yQ ?_|refine yR ?_|refine yS (fun hg=>?_) fun hg=>?_|refine yT ?_|refine yU ?_|refine yV (fun hg=>?_) fun hg=>?_|refine yW ?_|refine yX ?_|refine yY (fun hg=>?_) fun hg=>?_))
        | ((with_reducible refine idOQ ?_); first|(with_reducible first|refine wA ?_|refine wB ?_|refine wC ?_|refine wD ?_|refine wE ?_|refine wF ?_|refine oQ_nil ?_)|((with_reducible refine oQ_one ?_ ?_); exact ⟨_, rfl⟩)|(with_reducible refine oQ_of ⟨_, rfl⟩ (fun W0 hW0 => by (refine oM_gen (fun Kv hK => ?_)); simp [go_sem, hW0.cells]; (first | exact hK _ _ ⟨rfl, rfl⟩ | exact ⟨by omega, hK _ _ ⟨rfl, rfl⟩⟩)) ?_))
        | ((with_reducible refine idOH ?_); first|(with_reducible first|refine vA ?_|refine vB ?_|refine vC ?_|refine vD ?_|refine vE ?_|refine vF ?_|refine oH_nil ?_)|(with_reducible refine oH_of ⟨_, rfl⟩ (fun W0 hW0 => by (refine oM_gen (fun Kv hK => ?_)); simp [go_sem, hW0.cells]; (first | exact hK _ _ ⟨rfl, rfl⟩ | exact ⟨by omega, hK _ _ ⟨rfl, rfl⟩⟩)) ?_))
        | ((with_reducible refine idO ?_); (with_reducible refine oM_gen fun Kv hK=>?_); simp [go_sem]; (try simp (disch := omega) only [wrapI64, wrapU8, wrapU32, wrapU64]); (first|refine hK _ _ ?_|refine And.intro (by omega) (hK _ _ ?_)); clear hK; clear Kv)))
        exact store_desk s ad _ c hk (fun W3 hk hc => ⟨hk, hk, _, by simp [go_sem, hc], k2 _ _ (by rw [hv, he]; simp) hk.below⟩)
      | true =>
        repeat (any_goals (first
        | (with_reducible refine And.intro hk ?_)
        | ((with_reducible refine mk1 t.r ht.r ?_); intro v9 W9 hb9 hi9)
        | (with_reducible first|refine pureM_in ?_|refine pureQ_in ?_|refine pureH_in ?_|((refine idGdQ ?_); refine gdQ_conv fun _=>?_)|((refine idGdH ?_); refine gdH_conv fun _=>?_)|refine And.intro (Eq.refl (α := World) _) ?_|refine forall_one ?_|((refine idGd ?_); first|refine zA ?_|refine zB ?_|refine zC ?_|refine zD ?_|refine zE ?_|((refine idGdD ?_); first|refine zF ?_|refine zG ?_|refine zH (fun hg=>?_) fun hg=>?_|refine zI ?_|refine zJ ?_|refine zK (fun hg=>?_) fun hg=>?_)|((refine idGdN ?_); first|refine zL ?_|refine zM ?_|refine zN (fun hg=>?_) fun hg=>?_|refine zO ?_|refine zP ?_|refine zQ (fun hg=>?_) fun hg=>?_)|refine zR ?_|refine zS ?_|refine zT ?_|refine zU ?_|refine zV ?_|refine zW ?_|refine zX (fun hg=>?_) fun hg=>?_|refine zY ?_|refine zZ ?_|refine yA (fun hg=>?_) fun hg=>?_)|((refine idPick ?_); first|refine yB ?_|refine yC ?_|refine yD ?_|refine yE ?_|refine yF ?_|refine yG ?_|refine yH ?_|refine yI ?_|refine yJ ?_|refine yK ?_)|((refine idCond ?_); first|refine yL ?_|refine yM ?_|refine yN ?_|refine yO ?_|refine yP (fun hg=>?_) fun hg=>?_|refine yQ ?_|refine yR ?_|refine yS (fun hg=>?_) fun hg=>?_|refine yT ?_|refine yU ?_|refine yV (fun hg=>?_) fun hg=>?_|refine yW ?_|refine yX ?_|refine yY (fun hg=>?_) fun hg=>?_))
        | ((with_reducible refine idOQ ?_); first|(with_reducible first|refine wA ?_|refine wB ?_|refine wC ?_|refine wD ?_|refine wE ?_|refine wF ?_|refine oQ_nil ?_)|((with_reducible refine oQ_one ?_ ?_); exact ⟨_, rfl⟩)|(with_reducible refine oQ_of ⟨_, rfl⟩ (fun W0 hW0 => by (refine oM_gen (fun Kv hK => ?_)); simp [go_sem, hW0.cells]; (first | exact hK _ _ ⟨rfl, rfl⟩ | exact ⟨by omega, hK _ _ ⟨rfl, rfl⟩⟩)) ?_))
        | ((with_reducible refine idOH ?_); first|(with_reducible first|refine vA ?_|refine vB ?_|refine vC ?_|refine vD ?_|refine vE ?_|refine vF ?_|refine oH_nil ?_)|(with_reducible refine oH_of ⟨_, rfl⟩ (fun W0 hW0 => by (refine oM_gen (fun Kv hK => ?_)); simp [go_sem, hW0.cells]; (first | exact hK _ _ ⟨rfl, rfl⟩ | exact ⟨by omega, hK _ _ ⟨rfl, rfl⟩⟩)) ?_))
        | ((with_reducible refine idO ?_); (with_reducible refine oM_gen fun Kv hK=>?_); simp [go_sem]; (try simp (disch := omega) only [wrapI64, wrapU8, wrapU32, wrapU64]); (first|refine hK _ _ ?_|refine And.intro (by omega) (hK _ _ ?_)); clear hK; clear Kv)))
        have hk := hk.next hb9
        refine ⟨hk, nums_ok s 0 (hs.next hk.below) hi9 (fun w4 h4 => ?_)⟩
        have hk := hk.next h4
        refine ⟨hk, ?_⟩
        repeat (any_goals (first
        | (with_reducible refine And.intro hk ?_)
        | (with_reducible first|refine pureM_in ?_|refine pureQ_in ?_|refine pureH_in ?_|((refine idGdQ ?_); refine gdQ_conv fun _=>?_)|((refine idGdH ?_); refine gdH_conv fun _=>?_)|refine And.intro (Eq.refl (α := World) _) ?_|refine forall_one ?_|((refine idGd ?_); first|refine zA ?_|refine zB ?_|refine zC ?_|refine zD ?_|refine zE ?_|((refine idGdD ?_); first|refine zF ?_|refine zG ?_|refine zH (fun hg=>?_) fun hg=>?_|refine zI ?_|refine zJ ?_|refine zK (fun hg=>?_) fun hg=>?_)|((refine idGdN ?_); first|refine zL ?_|refine zM ?_|refine zN (fun hg=>?_) fun hg=>?_|refine zO ?_|refine zP ?_|refine zQ (fun hg=>?_) fun hg=>?_)|refine zR ?_|refine zS ?_|refine zT ?_|refine zU ?_|refine zV ?_|refine zW ?_|refine zX (fun hg=>?_) fun hg=>?_|refine zY ?_|refine zZ ?_|refine yA (fun hg=>?_) fun hg=>?_)|((refine idPick ?_); first|refine yB ?_|refine yC ?_|refine yD ?_|refine yE ?_|refine yF ?_|refine yG ?_|refine yH ?_|refine yI ?_|refine yJ ?_|refine yK ?_)|((refine idCond ?_); first|refine yL ?_|refine yM ?_|refine yN ?_|refine yO ?_|refine yP (fun hg=>?_) fun hg=>?_|refine yQ ?_|refine yR ?_|refine yS (fun hg=>?_) fun hg=>?_|refine yT ?_|refine yU ?_|refine yV (fun hg=>?_) fun hg=>?_|refine yW ?_|refine yX ?_|refine yY (fun hg=>?_) fun hg=>?_))
        | ((with_reducible refine idOQ ?_); first|(with_reducible first|refine wA ?_|refine wB ?_|refine wC ?_|refine wD ?_|refine wE ?_|refine wF ?_|refine oQ_nil ?_)|((with_reducible refine oQ_one ?_ ?_); exact ⟨_, rfl⟩)|(with_reducible refine oQ_of ⟨_, rfl⟩ (fun W0 hW0 => by (refine oM_gen (fun Kv hK => ?_)); simp [go_sem]; (first | exact hK _ _ ⟨rfl, rfl⟩ | exact ⟨by omega, hK _ _ ⟨rfl, rfl⟩⟩)) ?_))
        | ((with_reducible refine idOH ?_); first|(with_reducible first|refine vA ?_|refine vB ?_|refine vC ?_|refine vD ?_|refine vE ?_|refine vF ?_|refine oH_nil ?_)|(with_reducible refine oH_of ⟨_, rfl⟩ (fun W0 hW0 => by (refine oM_gen (fun Kv hK => ?_)); simp [go_sem]; (first | exact hK _ _ ⟨rfl, rfl⟩ | exact ⟨by omega, hK _ _ ⟨rfl, rfl⟩⟩)) ?_))
        | ((with_reducible refine idO ?_); (with_reducible refine oM_gen fun Kv hK=>?_); simp [go_sem]; (try simp (disch := omega) only [wrapI64, wrapU8, wrapU32, wrapU64]); (first|refine hK _ _ ?_|refine And.intro (by omega) (hK _ _ ?_)); clear hK; clear Kv)))
        exact store_desk s ad _ c hk (fun W3 hk hc => ⟨hk, hk, _, by simp [go_sem, hc], k2 _ _ (by rw [hv, he]; simp [hm]) hk.below⟩)
theorem acceptsM_no {s : Stp} {t : Tkt} {x : Spd} (h : formedM s t = false ∨ numsM s 1 [x.dare] = false ∨ x.answers.length ≠ s.bases.length ∨ numsM s 0 x.answers = false) : acceptsM s t x = false := by
  unfold acceptsM
  rw [if_neg]
  rcases h with h | h | h | h <;> simp [h]
theorem Accepts_ok (s : Stp) (t : Tkt) (x : Spd) {v xv : Value} (ht : TktR t) (hs : SetR w s v) (hx : SpdR w x xv) (k : ∀ w', Below w.heap.size w w' → K (.bool (acceptsM s t x)) w') : callM Tryz.prog 57 #[stpV s v, tktV t, spdV x xv] K w := by
  apply sh_57_ok
  unfold sh_57
  obtain ⟨ad, c, rfl⟩ := hs.ints.isSlice
  have hans := hx.answers
  obtain ⟨xad, xc, rfl⟩ := hx.answers.isSlice
  have k2 : ∀ w' r, acceptsM s t x = r → Below w.heap.size w w' → K (.bool r) w' := fun w' r e hb => by rw [← e]; exact k w' hb
  clear k
  refine box_kn (cs := stpC s (.slice ad s.bases.length c)) rfl (.start w) fun b1 W hk hb1 hbb => ?_
  refine box_kn (cs := tktC t) rfl hk fun b2 W2 hk hb2 hbb => ?_
  refine box_kn (cs := spdC x (.slice xad x.answers.length xc)) rfl hk fun b3 W3 hk hb3 hbb => ?_
  repeat (any_goals (first
  | (with_reducible first|refine pureM_in ?_|refine pureQ_in ?_|refine pureH_in ?_|((refine idGdQ ?_); refine gdQ_conv fun _=>?_)|((refine idGdH ?_); refine gdH_conv fun _=>?_)|refine And.intro (Eq.refl (α := World) _) ?_|refine forall_one ?_|((refine idGd ?_); first|refine zA ?_|refine zB ?_|refine zC ?_|refine zD ?_|refine zE ?_|((refine idGdD ?_); first|refine zF ?_|refine zG ?_|refine zH (fun hg=>?_) fun hg=>?_|refine zI ?_|refine zJ ?_|refine zK (fun hg=>?_) fun hg=>?_)|((refine idGdN ?_); first|refine zL ?_|refine zM ?_|refine zN (fun hg=>?_) fun hg=>?_|refine zO ?_|refine zP ?_|refine zQ (fun hg=>?_) fun hg=>?_)|refine zR ?_|refine zS ?_|refine zT ?_|refine zU ?_|refine zV ?_|refine zW ?_|refine zX (fun hg=>?_) fun hg=>?_|refine zY ?_|refine zZ ?_|refine yA (fun hg=>?_) fun hg=>?_)|((refine idPick ?_); first|refine yB ?_|refine yC ?_|refine yD ?_|refine yE ?_|refine yF ?_|refine yG ?_|refine yH ?_|refine yI ?_|refine yJ ?_|refine yK ?_)|((refine idCond ?_); first|refine yL ?_|refine yM ?_|refine yN ?_|refine yO ?_|refine yP (fun hg=>?_) fun hg=>?_|refine yQ ?_|refine yR ?_|refine yS (fun hg=>?_) fun hg=>?_|refine yT ?_|refine yU ?_|refine yV (fun hg=>?_) fun hg=>?_|refine yW ?_|refine yX ?_|refine yY (fun hg=>?_) fun hg=>?_))
  | ((with_reducible refine idOQ ?_); first|(with_reducible first|refine wA ?_|refine wB ?_|refine wC ?_|refine wD ?_|refine wE ?_|refine wF ?_|refine oQ_nil ?_)|((with_reducible refine oQ_one ?_ ?_); exact ⟨_, rfl⟩)|(with_reducible refine oQ_of ⟨_, rfl⟩ (fun W0 hW0 => by (refine oM_gen (fun Kv hK => ?_)); simp [go_sem]; (first | exact hK _ _ ⟨rfl, rfl⟩ | exact ⟨by omega, hK _ _ ⟨rfl, rfl⟩⟩)) ?_))
  | ((with_reducible refine idOH ?_); first|(with_reducible first|refine vA ?_|refine vB ?_|refine vC ?_|refine vD ?_|refine vE ?_|refine vF ?_|refine oH_nil ?_)|(with_reducible refine oH_of ⟨_, rfl⟩ (fun W0 hW0 => by (refine oM_gen (fun Kv hK => ?_)); simp [go_sem]; (first | exact hK _ _ ⟨rfl, rfl⟩ | exact ⟨by omega, hK _ _ ⟨rfl, rfl⟩⟩)) ?_))
  | ((with_reducible refine idO ?_); (with_reducible refine oM_gen fun Kv hK=>?_); simp [go_sem, hk.cells]; (try simp (disch := omega) only [wrapI64, wrapU8, wrapU32, wrapU64]); (first|refine hK _ _ ?_|refine And.intro (by omega) (hK _ _ ?_)); clear hK; clear Kv)))
  refine formed_ok s t ht (hs.next hk.below) (fun w2 h2 => ?_)
  have hk := hk.next h2
  clear hb1 h2 hb2 hb3
  cases hv : formedM s t with
  | false =>
    repeat (any_goals (first
    | ((with_reducible refine local_desk' s ad s.bases.length c hk ?_); intro b7 W7 hk hb7 hg7)
    | (with_reducible first|refine pureM_in ?_|refine pureQ_in ?_|refine pureH_in ?_|((refine idGdQ ?_); refine gdQ_conv fun _=>?_)|((refine idGdH ?_); refine gdH_conv fun _=>?_)|refine And.intro (Eq.refl (α := World) _) ?_|refine forall_one ?_|((refine idGd ?_); first|refine zA ?_|refine zB ?_|refine zC ?_|refine zD ?_|refine zE ?_|((refine idGdD ?_); first|refine zF ?_|refine zG ?_|refine zH (fun hg=>?_) fun hg=>?_|refine zI ?_|refine zJ ?_|refine zK (fun hg=>?_) fun hg=>?_)|((refine idGdN ?_); first|refine zL ?_|refine zM ?_|refine zN (fun hg=>?_) fun hg=>?_|refine zO ?_|refine zP ?_|refine zQ (fun hg=>?_) fun hg=>?_)|refine zR ?_|refine zS ?_|refine zT ?_|refine zU ?_|refine zV ?_|refine zW ?_|refine zX (fun hg=>?_) fun hg=>?_|refine zY ?_|refine zZ ?_|refine yA (fun hg=>?_) fun hg=>?_)|((refine idPick ?_); first|refine yB ?_|refine yC ?_|refine yD ?_|refine yE ?_|refine yF ?_|refine yG ?_|refine yH ?_|refine yI ?_|refine yJ ?_|refine yK ?_)|((refine idCond ?_); first|refine yL ?_|refine yM ?_|refine yN ?_|refine yO ?_|refine yP (fun hg=>?_) fun hg=>?_|refine yQ ?_|refine yR ?_|refine yS (fun hg=>?_) fun hg=>?_|refine yT ?_|refine yU ?_|refine yV (fun hg=>?_) fun hg=>?_|refine yW ?_|refine yX ?_|refine yY (fun hg=>?_) fun hg=>?_))
    | ((with_reducible refine idOQ ?_); first|(with_reducible first|refine wA ?_|refine wB ?_|refine wC ?_|refine wD ?_|refine wE ?_|refine wF ?_|refine oQ_nil ?_)|((with_reducible refine oQ_one ?_ ?_); exact ⟨_, rfl⟩)|(with_reducible refine oQ_of ⟨_, rfl⟩ (fun W0 hW0 => by (refine oM_gen (fun Kv hK => ?_)); simp [go_sem]; (first | exact hK _ _ ⟨rfl, rfl⟩ | exact ⟨by omega, hK _ _ ⟨rfl, rfl⟩⟩)) ?_))
    | ((with_reducible refine idOH ?_); first|(with_reducible first|refine vA ?_|refine vB ?_|refine vC ?_|refine vD ?_|refine vE ?_|refine vF ?_|refine oH_nil ?_)|(with_reducible refine oH_of ⟨_, rfl⟩ (fun W0 hW0 => by (refine oM_gen (fun Kv hK => ?_)); simp [go_sem]; (first | exact hK _ _ ⟨rfl, rfl⟩ | exact ⟨by omega, hK _ _ ⟨rfl, rfl⟩⟩)) ?_))
    | ((with_reducible refine idO ?_); (with_reducible refine oM_gen fun Kv hK=>?_); simp [go_sem, hk.cells]; (try simp (disch := omega) only [wrapI64, wrapU8, wrapU32, wrapU64]); (first|refine hK _ _ ?_|refine And.intro (by omega) (hK _ _ ?_)); clear hK; clear Kv)))
    exact k2 _ _ (acceptsM_no (.inl hv)) hk.below
  | true =>
    repeat (any_goals (first
    | ((with_reducible refine local_desk' s ad s.bases.length c hk ?_); intro b7 W7 hk hb7 hg7) | ((with_reducible refine mk1 x.dare hx.dare ?_); intro v8 W8 hb8 hi)
    | (with_reducible first|refine pureM_in ?_|refine pureQ_in ?_|refine pureH_in ?_|((refine idGdQ ?_); refine gdQ_conv fun _=>?_)|((refine idGdH ?_); refine gdH_conv fun _=>?_)|refine And.intro (Eq.refl (α := World) _) ?_|refine forall_one ?_|((refine idGd ?_); first|refine zA ?_|refine zB ?_|refine zC ?_|refine zD ?_|refine zE ?_|((refine idGdD ?_); first|refine zF ?_|refine zG ?_|refine zH (fun hg=>?_) fun hg=>?_|refine zI ?_|refine zJ ?_|refine zK (fun hg=>?_) fun hg=>?_)|((refine idGdN ?_); first|refine zL ?_|refine zM ?_|refine zN (fun hg=>?_) fun hg=>?_|refine zO ?_|refine zP ?_|refine zQ (fun hg=>?_) fun hg=>?_)|refine zR ?_|refine zS ?_|refine zT ?_|refine zU ?_|refine zV ?_|refine zW ?_|refine zX (fun hg=>?_) fun hg=>?_|refine zY ?_|refine zZ ?_|refine yA (fun hg=>?_) fun hg=>?_)|((refine idPick ?_); first|refine yB ?_|refine yC ?_|refine yD ?_|refine yE ?_|refine yF ?_|refine yG ?_|refine yH ?_|refine yI ?_|refine yJ ?_|refine yK ?_)|((refine idCond ?_); first|refine yL ?_|refine yM ?_|refine yN ?_|refine yO ?_|refine yP (fun hg=>?_) fun hg=>?_|refine yQ ?_|refine yR ?_|refine yS (fun hg=>?_) fun hg=>?_|refine yT ?_|refine yU ?_|refine yV (fun hg=>?_) fun hg=>?_|refine yW ?_|refine yX ?_|refine yY (fun hg=>?_) fun hg=>?_))
    | ((with_reducible refine idOQ ?_); first|(with_reducible first|refine wA ?_|refine wB ?_|refine wC ?_|refine wD ?_|refine wE ?_|refine wF ?_|refine oQ_nil ?_)|((with_reducible refine oQ_one ?_ ?_); exact ⟨_, rfl⟩)|(with_reducible refine oQ_of ⟨_, rfl⟩ (fun W0 hW0 => by (refine oM_gen (fun Kv hK => ?_)); simp [go_sem]; (first | exact hK _ _ ⟨rfl, rfl⟩ | exact ⟨by omega, hK _ _ ⟨rfl, rfl⟩⟩)) ?_))
    | ((with_reducible refine idOH ?_); first|(with_reducible first|refine vA ?_|refine vB ?_|refine vC ?_|refine vD ?_|refine vE ?_|refine vF ?_|refine oH_nil ?_)|(with_reducible refine oH_of ⟨_, rfl⟩ (fun W0 hW0 => by (refine oM_gen (fun Kv hK => ?_)); simp [go_sem]; (first | exact hK _ _ ⟨rfl, rfl⟩ | exact ⟨by omega, hK _ _ ⟨rfl, rfl⟩⟩)) ?_))
    | ((with_reducible refine idO ?_); (with_reducible refine oM_gen fun Kv hK=>?_); simp [go_sem, hk.cells]; (try simp (disch := omega) only [wrapI64, wrapU8, wrapU32, wrapU64]); (first|refine hK _ _ ?_|refine And.intro (by omega) (hK _ _ ?_)); clear hK; clear Kv)))
    have hk := hk.next hb8
    refine nums_ok s 1 (hs.next hk.below) hi (fun w3 h3 => ?_)
    have hk := hk.next h3
    cases hn : numsM s 1 [x.dare] with
    | false =>
      repeat (any_goals (first
      | (with_reducible first|refine pureM_in ?_|refine pureQ_in ?_|refine pureH_in ?_|((refine idGdQ ?_); refine gdQ_conv fun _=>?_)|((refine idGdH ?_); refine gdH_conv fun _=>?_)|refine And.intro (Eq.refl (α := World) _) ?_|refine forall_one ?_|((refine idGd ?_); first|refine zA ?_|refine zB ?_|refine zC ?_|refine zD ?_|refine zE ?_|((refine idGdD ?_); first|refine zF ?_|refine zG ?_|refine zH (fun hg=>?_) fun hg=>?_|refine zI ?_|refine zJ ?_|refine zK (fun hg=>?_) fun hg=>?_)|((refine idGdN ?_); first|refine zL ?_|refine zM ?_|refine zN (fun hg=>?_) fun hg=>?_|refine zO ?_|refine zP ?_|refine zQ (fun hg=>?_) fun hg=>?_)|refine zR ?_|refine zS ?_|refine zT ?_|refine zU ?_|refine zV ?_|refine zW ?_|refine zX (fun hg=>?_) fun hg=>?_|refine zY ?_|refine zZ ?_|refine yA (fun hg=>?_) fun hg=>?_)|((refine idPick ?_); first|refine yB ?_|refine yC ?_|refine yD ?_|refine yE ?_|refine yF ?_|refine yG ?_|refine yH ?_|refine yI ?_|refine yJ ?_|refine yK ?_)|((refine idCond ?_); first|refine yL ?_|refine yM ?_|refine yN ?_|refine yO ?_|refine yP (fun hg=>?_) fun hg=>?_|refine yQ ?_|refine yR ?_|refine yS (fun hg=>?_) fun hg=>?_|refine yT ?_|refine yU ?_|refine yV (fun hg=>?_) fun hg=>?_|refine yW ?_|refine yX ?_|refine yY (fun hg=>?_) fun hg=>?_))
      | ((with_reducible refine idOQ ?_); first|(with_reducible first|refine wA ?_|refine wB ?_|refine wC ?_|refine wD ?_|refine wE ?_|refine wF ?_|refine oQ_nil ?_)|((with_reducible refine oQ_one ?_ ?_); exact ⟨_, rfl⟩)|(with_reducible refine oQ_of ⟨_, rfl⟩ (fun W0 hW0 => by (refine oM_gen (fun Kv hK => ?_)); simp [go_sem]; (first | exact hK _ _ ⟨rfl, rfl⟩ | exact ⟨by omega, hK _ _ ⟨rfl, rfl⟩⟩)) ?_))
      | ((with_reducible refine idOH ?_); first|(with_reducible first|refine vA ?_|refine vB ?_|refine vC ?_|refine vD ?_|refine vE ?_|refine vF ?_|refine oH_nil ?_)|(with_reducible refine oH_of ⟨_, rfl⟩ (fun W0 hW0 => by (refine oM_gen (fun Kv hK => ?_)); simp [go_sem]; (first | exact hK _ _ ⟨rfl, rfl⟩ | exact ⟨by omega, hK _ _ ⟨rfl, rfl⟩⟩)) ?_))
      | ((with_reducible refine idO ?_); (with_reducible refine oM_gen fun Kv hK=>?_); simp [go_sem, hk.cells]; (try simp (disch := omega) only [wrapI64, wrapU8, wrapU32, wrapU64]); (first|refine hK _ _ ?_|refine And.intro (by omega) (hK _ _ ?_)); clear hK; clear Kv)))
      exact k2 _ _ (acceptsM_no (.inr (.inl hn))) hk.below
    | true =>
      by_cases hlen : x.answers.length = s.bases.length
      · repeat (any_goals (first
        | (with_reducible first|refine pureM_in ?_|refine pureQ_in ?_|refine pureH_in ?_|((refine idGdQ ?_); refine gdQ_conv fun _=>?_)|((refine idGdH ?_); refine gdH_conv fun _=>?_)|refine And.intro (Eq.refl (α := World) _) ?_|refine forall_one ?_|((refine idGd ?_); first|refine zA ?_|refine zB ?_|refine zC ?_|refine zD ?_|refine zE ?_|((refine idGdD ?_); first|refine zF ?_|refine zG ?_|refine zH (fun hg=>?_) fun hg=>?_|refine zI ?_|refine zJ ?_|refine zK (fun hg=>?_) fun hg=>?_)|((refine idGdN ?_); first|refine zL ?_|refine zM ?_|refine zN (fun hg=>?_) fun hg=>?_|refine zO ?_|refine zP ?_|refine zQ (fun hg=>?_) fun hg=>?_)|refine zR ?_|refine zS ?_|refine zT ?_|refine zU ?_|refine zV ?_|refine zW ?_|refine zX (fun hg=>?_) fun hg=>?_|refine zY ?_|refine zZ ?_|refine yA (fun hg=>?_) fun hg=>?_)|((refine idPick ?_); first|refine yB ?_|refine yC ?_|refine yD ?_|refine yE ?_|refine yF ?_|refine yG ?_|refine yH ?_|refine yI ?_|refine yJ ?_|refine yK ?_)|((refine idCond ?_); first|refine yL ?_|refine yM ?_|refine yN ?_|refine yO ?_|refine yP (fun hg=>?_) fun hg=>?_|refine yQ ?_|refine yR ?_|refine yS (fun hg=>?_) fun hg=>?_|refine yT ?_|refine yU ?_|refine yV (fun hg=>?_) fun hg=>?_|refine yW ?_|refine yX ?_|refine yY (fun hg=>?_) fun hg=>?_))
        | ((with_reducible refine idOQ ?_); first|(with_reducible first|refine wA ?_|refine wB ?_|refine wC ?_|refine wD ?_|refine wE ?_|refine wF ?_|refine oQ_nil ?_)|((with_reducible refine oQ_one ?_ ?_); exact ⟨_, rfl⟩)|(with_reducible refine oQ_of ⟨_, rfl⟩ (fun W0 hW0 => by (refine oM_gen (fun Kv hK => ?_)); simp [go_sem]; (first | exact hK _ _ ⟨rfl, rfl⟩ | exact ⟨by omega, hK _ _ ⟨rfl, rfl⟩⟩)) ?_))
        | ((with_reducible refine idOH ?_); first|(with_reducible first|refine vA ?_|refine vB ?_|refine vC ?_|refine vD ?_|refine vE ?_|refine vF ?_|refine oH_nil ?_)|(with_reducible refine oH_of ⟨_, rfl⟩ (fun W0 hW0 => by (refine oM_gen (fun Kv hK => ?_)); simp [go_sem]; (first | exact hK _ _ ⟨rfl, rfl⟩ | exact ⟨by omega, hK _ _ ⟨rfl, rfl⟩⟩)) ?_))
        | ((with_reducible refine idO ?_); (with_reducible refine oM_gen fun Kv hK=>?_); simp [go_sem, hk.cells, hlen]; (try simp (disch := omega) only [wrapI64, wrapU8, wrapU32, wrapU64]); (first|refine hK _ _ ?_|refine And.intro (by omega) (hK _ _ ?_)); clear hK; clear Kv)))
        have hans2 : Ints w (.slice xad s.bases.length xc) x.answers := by rw [← hlen]; exact hans
        refine nums_ok s 0 (hs.next hk.below) (hans2.next hk.below) (fun w5 h5 => ?_)
        have hk := hk.next h5
        cases hn2 : numsM s 0 x.answers with
        | false =>
          repeat (any_goals (first
          | (with_reducible first|refine pureM_in ?_|refine pureQ_in ?_|refine pureH_in ?_|((refine idGdQ ?_); refine gdQ_conv fun _=>?_)|((refine idGdH ?_); refine gdH_conv fun _=>?_)|refine And.intro (Eq.refl (α := World) _) ?_|refine forall_one ?_|((refine idGd ?_); first|refine zA ?_|refine zB ?_|refine zC ?_|refine zD ?_|refine zE ?_|((refine idGdD ?_); first|refine zF ?_|refine zG ?_|refine zH (fun hg=>?_) fun hg=>?_|refine zI ?_|refine zJ ?_|refine zK (fun hg=>?_) fun hg=>?_)|((refine idGdN ?_); first|refine zL ?_|refine zM ?_|refine zN (fun hg=>?_) fun hg=>?_|refine zO ?_|refine zP ?_|refine zQ (fun hg=>?_) fun hg=>?_)|refine zR ?_|refine zS ?_|refine zT ?_|refine zU ?_|refine zV ?_|refine zW ?_|refine zX (fun hg=>?_) fun hg=>?_|refine zY ?_|refine zZ ?_|refine yA (fun hg=>?_) fun hg=>?_)|((refine idPick ?_); first|refine yB ?_|refine yC ?_|refine yD ?_|refine yE ?_|refine yF ?_|refine yG ?_|refine yH ?_|refine yI ?_|refine yJ ?_|refine yK ?_)|((refine idCond ?_); first|refine yL ?_|refine yM ?_|refine yN ?_|refine yO ?_|refine yP (fun hg=>?_) fun hg=>?_|refine yQ ?_|refine yR ?_|refine yS (fun hg=>?_) fun hg=>?_|refine yT ?_|refine yU ?_|refine yV (fun hg=>?_) fun hg=>?_|refine yW ?_|refine yX ?_|refine yY (fun hg=>?_) fun hg=>?_))
          | ((with_reducible refine idOQ ?_); first|(with_reducible first|refine wA ?_|refine wB ?_|refine wC ?_|refine wD ?_|refine wE ?_|refine wF ?_|refine oQ_nil ?_)|((with_reducible refine oQ_one ?_ ?_); exact ⟨_, rfl⟩)|(with_reducible refine oQ_of ⟨_, rfl⟩ (fun W0 hW0 => by (refine oM_gen (fun Kv hK => ?_)); simp [go_sem]; (first | exact hK _ _ ⟨rfl, rfl⟩ | exact ⟨by omega, hK _ _ ⟨rfl, rfl⟩⟩)) ?_))
          | ((with_reducible refine idOH ?_); first|(with_reducible first|refine vA ?_|refine vB ?_|refine vC ?_|refine vD ?_|refine vE ?_|refine vF ?_|refine oH_nil ?_)|(with_reducible refine oH_of ⟨_, rfl⟩ (fun W0 hW0 => by (refine oM_gen (fun Kv hK => ?_)); simp [go_sem]; (first | exact hK _ _ ⟨rfl, rfl⟩ | exact ⟨by omega, hK _ _ ⟨rfl, rfl⟩⟩)) ?_))
          | ((with_reducible refine idO ?_); (with_reducible refine oM_gen fun Kv hK=>?_); simp [go_sem, hk.cells]; (try simp (disch := omega) only [wrapI64, wrapU8, wrapU32, wrapU64]); (first|refine hK _ _ ?_|refine And.intro (by omega) (hK _ _ ?_)); clear hK; clear Kv)))
          exact k2 _ _ (acceptsM_no (.inr (.inr (.inr hn2)))) hk.below
        | true =>
          repeat (any_goals (first
          | (with_reducible first|refine pureM_in ?_|refine pureQ_in ?_|refine pureH_in ?_|((refine idGdQ ?_); refine gdQ_conv fun _=>?_)|((refine idGdH ?_); refine gdH_conv fun _=>?_)|refine And.intro (Eq.refl (α := World) _) ?_|refine forall_one ?_|((refine idGd ?_); first|refine zA ?_|refine zB ?_|refine zC ?_|refine zD ?_|refine zE ?_|((refine idGdD ?_); first|refine zF ?_|refine zG ?_|refine zH (fun hg=>?_) fun hg=>?_|refine zI ?_|refine zJ ?_|refine zK (fun hg=>?_) fun hg=>?_)|((refine idGdN ?_); first|refine zL ?_|refine zM ?_|refine zN (fun hg=>?_) fun hg=>?_|refine zO ?_|refine zP ?_|refine zQ (fun hg=>?_) fun hg=>?_)|refine zR ?_|refine zS ?_|refine zT ?_|refine zU ?_|refine zV ?_|refine zW ?_|refine zX (fun hg=>?_) fun hg=>?_|refine zY ?_|refine zZ ?_|refine yA (fun hg=>?_) fun hg=>?_)|((refine idPick ?_); first|refine yB ?_|refine yC ?_|refine yD ?_|refine yE ?_|refine yF ?_|refine yG ?_|refine yH ?_|refine yI ?_|refine yJ ?_|refine yK ?_)|((refine idCond ?_); first|refine yL ?_|refine yM ?_|refine yN ?_|refine yO ?_|refine yP (fun hg=>?_) fun hg=>?_|refine yQ ?_|refine yR ?_|refine yS (fun hg=>?_) fun hg=>?_|refine yT ?_|refine yU ?_|refine yV (fun hg=>?_) fun hg=>?_|refine yW ?_|refine yX ?_|refine yY (fun hg=>?_) fun hg=>?_))
          | ((with_reducible refine idOQ ?_); first|(with_reducible first|refine wA ?_|refine wB ?_|refine wC ?_|refine wD ?_|refine wE ?_|refine wF ?_|refine oQ_nil ?_)|((with_reducible refine oQ_one ?_ ?_); exact ⟨_, rfl⟩)|(with_reducible refine oQ_of ⟨_, rfl⟩ (fun W0 hW0 => by (refine oM_gen (fun Kv hK => ?_)); simp [go_sem]; (first | exact hK _ _ ⟨rfl, rfl⟩ | exact ⟨by omega, hK _ _ ⟨rfl, rfl⟩⟩)) ?_))
          | ((with_reducible refine idOH ?_); first|(with_reducible first|refine vA ?_|refine vB ?_|refine vC ?_|refine vD ?_|refine vE ?_|refine vF ?_|refine oH_nil ?_)|(with_reducible refine oH_of ⟨_, rfl⟩ (fun W0 hW0 => by (refine oM_gen (fun Kv hK => ?_)); simp [go_sem]; (first | exact hK _ _ ⟨rfl, rfl⟩ | exact ⟨by omega, hK _ _ ⟨rfl, rfl⟩⟩)) ?_))
          | ((with_reducible refine idO ?_); (with_reducible refine oM_gen fun Kv hK=>?_); simp [go_sem, hk.cells]; (try simp (disch := omega) only [wrapI64, wrapU8, wrapU32, wrapU64]); (first|refine hK _ _ ?_|refine And.intro (by omega) (hK _ _ ?_)); clear hK; clear Kv)))
          have e : acceptsM s t x = decide ((prodG s.g s.bases x.answers).1 = timesM s (powerG s.g t.mark x.dare) [t.first]) := by
            unfold acceptsM
            rw [if_pos (by rw [hv, hn, hn2]; simp [hlen])]
          refine ⟨Kn w _, hk.drew, ?_⟩
          have hk := hk.drew
          repeat (any_goals (first
          | (with_reducible first|refine pureM_in ?_|refine pureQ_in ?_|refine pureH_in ?_|((refine idGdQ ?_); refine gdQ_conv fun _=>?_)|((refine idGdH ?_); refine gdH_conv fun _=>?_)|refine And.intro (Eq.refl (α := World) _) ?_|refine forall_one ?_|((refine idGd ?_); first|refine zA ?_|refine zB ?_|refine zC ?_|refine zD ?_|refine zE ?_|((refine idGdD ?_); first|refine zF ?_|refine zG ?_|refine zH (fun hg=>?_) fun hg=>?_|refine zI ?_|refine zJ ?_|refine zK (fun hg=>?_) fun hg=>?_)|((refine idGdN ?_); first|refine zL ?_|refine zM ?_|refine zN (fun hg=>?_) fun hg=>?_|refine zO ?_|refine zP ?_|refine zQ (fun hg=>?_) fun hg=>?_)|refine zR ?_|refine zS ?_|refine zT ?_|refine zU ?_|refine zV ?_|refine zW ?_|refine zX (fun hg=>?_) fun hg=>?_|refine zY ?_|refine zZ ?_|refine yA (fun hg=>?_) fun hg=>?_)|((refine idPick ?_); first|refine yB ?_|refine yC ?_|refine yD ?_|refine yE ?_|refine yF ?_|refine yG ?_|refine yH ?_|refine yI ?_|refine yJ ?_|refine yK ?_)|((refine idCond ?_); first|refine yL ?_|refine yM ?_|refine yN ?_|refine yO ?_|refine yP (fun hg=>?_) fun hg=>?_|refine yQ ?_|refine yR ?_|refine yS (fun hg=>?_) fun hg=>?_|refine yT ?_|refine yU ?_|refine yV (fun hg=>?_) fun hg=>?_|refine yW ?_|refine yX ?_|refine yY (fun hg=>?_) fun hg=>?_))
          | ((with_reducible refine idOQ ?_); first|(with_reducible first|refine wA ?_|refine wB ?_|refine wC ?_|refine wD ?_|refine wE ?_|refine wF ?_|refine oQ_nil ?_)|((with_reducible refine oQ_one ?_ ?_); exact ⟨_, rfl⟩)|(with_reducible refine oQ_of ⟨_, rfl⟩ (fun W0 hW0 => by (refine oM_gen (fun Kv hK => ?_)); simp [go_sem, hW0.cells, hlen]; (first | exact hK _ _ ⟨rfl, rfl⟩ | exact ⟨by omega, hK _ _ ⟨rfl, rfl⟩⟩)) ?_))
          | ((with_reducible refine idOH ?_); first|(with_reducible first|refine vA ?_|refine vB ?_|refine vC ?_|refine vD ?_|refine vE ?_|refine vF ?_|refine oH_nil ?_)|(with_reducible refine oH_of ⟨_, rfl⟩ (fun W0 hW0 => by (refine oM_gen (fun Kv hK => ?_)); simp [go_sem, hW0.cells, hlen]; (first | exact hK _ _ ⟨rfl, rfl⟩ | exact ⟨by omega, hK _ _ ⟨rfl, rfl⟩⟩)) ?_))
          | ((with_reducible refine idO ?_); (with_reducible refine oM_gen fun Kv hK=>?_); simp [go_sem]; (try simp (disch := omega) only [wrapI64, wrapU8, wrapU32, wrapU64]); (first|refine hK _ _ ?_|refine And.intro (by omega) (hK _ _ ?_)); clear hK; clear Kv)))
          refine ⟨?_, ?_⟩
          · refine product_t_ok s (hs.next hk.below) (hans2.next hk.below) (fun w6 h6 => ?_)
            have hk := hk.next h6
            refine ⟨hk, ?_, ?_⟩
            · refine tpower_ok s t.mark x.dare (hs.next hk.below) (fun w7 h7 => ?_)
              have hk := hk.next h7
              refine ⟨hk, mk1 t.first ht.first (fun v8 w8 h8 hi => ?_)⟩
              have hk := hk.next h8
              refine ⟨hk, times_ok s _ (hs.next hk.below) hi (fun w9 h9 => ?_)⟩
              have hk := hk.next h9
              refine ⟨hk, ?_⟩
              repeat (any_goals (first
              | (with_reducible first|refine pureM_in ?_|refine pureQ_in ?_|refine pureH_in ?_|((refine idGdQ ?_); refine gdQ_conv fun _=>?_)|((refine idGdH ?_); refine gdH_conv fun _=>?_)|refine And.intro (Eq.refl (α := World) _) ?_|refine forall_one ?_|((refine idGd ?_); first|refine zA ?_|refine zB ?_|refine zC ?_|refine zD ?_|refine zE ?_|((refine idGdD ?_); first|refine zF ?_|refine zG ?_|refine zH (fun hg=>?_) fun hg=>?_|refine zI ?_|refine zJ ?_|refine zK (fun hg=>?_) fun hg=>?_)|((refine idGdN ?_); first|refine zL ?_|refine zM ?_|refine zN (fun hg=>?_) fun hg=>?_|refine zO ?_|refine zP ?_|refine zQ (fun hg=>?_) fun hg=>?_)|refine zR ?_|refine zS ?_|refine zT ?_|refine zU ?_|refine zV ?_|refine zW ?_|refine zX (fun hg=>?_) fun hg=>?_|refine zY ?_|refine zZ ?_|refine yA (fun hg=>?_) fun hg=>?_)|((refine idPick ?_); first|refine yB ?_|refine yC ?_|refine yD ?_|refine yE ?_|refine yF ?_|refine yG ?_|refine yH ?_|refine yI ?_|refine yJ ?_|refine yK ?_)|((refine idCond ?_); first|refine yL ?_|refine yM ?_|refine yN ?_|refine yO ?_|refine yP (fun hg=>?_) fun hg=>?_|refine yQ ?_|refine yR ?_|refine yS (fun hg=>?_) fun hg=>?_|refine yT ?_|refine yU ?_|refine yV (fun hg=>?_) fun hg=>?_|refine yW ?_|refine yX ?_|refine yY (fun hg=>?_) fun hg=>?_))
              | ((with_reducible refine idOQ ?_); first|(with_reducible first|refine wA ?_|refine wB ?_|refine wC ?_|refine wD ?_|refine wE ?_|refine wF ?_|refine oQ_nil ?_)|((with_reducible refine oQ_one ?_ ?_); exact ⟨_, rfl⟩)|(with_reducible refine oQ_of ⟨_, rfl⟩ (fun W0 hW0 => by (refine oM_gen (fun Kv hK => ?_)); simp [go_sem]; (first | exact hK _ _ ⟨rfl, rfl⟩ | exact ⟨by omega, hK _ _ ⟨rfl, rfl⟩⟩)) ?_))
              | ((with_reducible refine idOH ?_); first|(with_reducible first|refine vA ?_|refine vB ?_|refine vC ?_|refine vD ?_|refine vE ?_|refine vF ?_|refine oH_nil ?_)|(with_reducible refine oH_of ⟨_, rfl⟩ (fun W0 hW0 => by (refine oM_gen (fun Kv hK => ?_)); simp [go_sem]; (first | exact hK _ _ ⟨rfl, rfl⟩ | exact ⟨by omega, hK _ _ ⟨rfl, rfl⟩⟩)) ?_))
              | ((with_reducible refine idO ?_); (with_reducible refine oM_gen fun Kv hK=>?_); simp [go_sem]; (try simp (disch := omega) only [wrapI64, wrapU8, wrapU32, wrapU64]); (first|refine hK _ _ ?_|refine And.intro (by omega) (hK _ _ ?_)); clear hK; clear Kv)))
              exact ⟨hk, k2 _ _ e hk.below⟩
            · refine mk1 t.first ht.first (fun v8 w8 h8 hi => ?_)
              have hk := hk.next h8
              refine ⟨hk, tpower_ok s t.mark x.dare (hs.next hk.below) (fun w7 h7 => ?_)⟩
              have hk := hk.next h7
              refine ⟨hk, times_ok s _ (hs.next hk.below) (hi.next h7) (fun w9 h9 => ?_)⟩
              have hk := hk.next h9
              refine ⟨hk, ?_⟩
              repeat (any_goals (first
              | (with_reducible first|refine pureM_in ?_|refine pureQ_in ?_|refine pureH_in ?_|((refine idGdQ ?_); refine gdQ_conv fun _=>?_)|((refine idGdH ?_); refine gdH_conv fun _=>?_)|refine And.intro (Eq.refl (α := World) _) ?_|refine forall_one ?_|((refine idGd ?_); first|refine zA ?_|refine zB ?_|refine zC ?_|refine zD ?_|refine zE ?_|((refine idGdD ?_); first|refine zF ?_|refine zG ?_|refine zH (fun hg=>?_) fun hg=>?_|refine zI ?_|refine zJ ?_|refine zK (fun hg=>?_) fun hg=>?_)|((refine idGdN ?_); first|refine zL ?_|refine zM ?_|refine zN (fun hg=>?_) fun hg=>?_|refine zO ?_|refine zP ?_|refine zQ (fun hg=>?_) fun hg=>?_)|refine zR ?_|refine zS ?_|refine zT ?_|refine zU ?_|refine zV ?_|refine zW ?_|refine zX (fun hg=>?_) fun hg=>?_|refine zY ?_|refine zZ ?_|refine yA (fun hg=>?_) fun hg=>?_)|((refine idPick ?_); first|refine yB ?_|refine yC ?_|refine yD ?_|refine yE ?_|refine yF ?_|refine yG ?_|refine yH ?_|refine yI ?_|refine yJ ?_|refine yK ?_)|((refine idCond ?_); first|refine yL ?_|refine yM ?_|refine yN ?_|refine yO ?_|refine yP (fun hg=>?_) fun hg=>?_|refine yQ ?_|refine yR ?_|refine yS (fun hg=>?_) fun hg=>?_|refine yT ?_|refine yU ?_|refine yV (fun hg=>?_) fun hg=>?_|refine yW ?_|refine yX ?_|refine yY (fun hg=>?_) fun hg=>?_))
              | ((with_reducible refine idOQ ?_); first|(with_reducible first|refine wA ?_|refine wB ?_|refine wC ?_|refine wD ?_|refine wE ?_|refine wF ?_|refine oQ_nil ?_)|((with_reducible refine oQ_one ?_ ?_); exact ⟨_, rfl⟩)|(with_reducible refine oQ_of ⟨_, rfl⟩ (fun W0 hW0 => by (refine oM_gen (fun Kv hK => ?_)); simp [go_sem]; (first | exact hK _ _ ⟨rfl, rfl⟩ | exact ⟨by omega, hK _ _ ⟨rfl, rfl⟩⟩)) ?_))
              | ((with_reducible refine idOH ?_); first|(with_reducible first|refine vA ?_|refine vB ?_|refine vC ?_|refine vD ?_|refine vE ?_|refine vF ?_|refine oH_nil ?_)|(with_reducible refine oH_of ⟨_, rfl⟩ (fun W0 hW0 => by (refine oM_gen (fun Kv hK => ?_)); simp [go_sem]; (first | exact hK _ _ ⟨rfl, rfl⟩ | exact ⟨by omega, hK _ _ ⟨rfl, rfl⟩⟩)) ?_))
              | ((with_reducible refine idO ?_); (with_reducible refine oM_gen fun Kv hK=>?_); simp [go_sem]; (try simp (disch := omega) only [wrapI64, wrapU8, wrapU32, wrapU64]); (first|refine hK _ _ ?_|refine And.intro (by omega) (hK _ _ ?_)); clear hK; clear Kv)))
              exact ⟨hk, k2 _ _ e hk.below⟩
          · refine mk1 t.first ht.first (fun v8 w8 h8 hi => ?_)
            have hk := hk.next h8
            refine ⟨hk, product_t_ok s (hs.next hk.below) (hans2.next hk.below) (fun w6 h6 => ?_)⟩
            have hk := hk.next h6
            refine ⟨hk, tpower_ok s t.mark x.dare (hs.next hk.below) (fun w7 h7 => ?_)⟩
            have hk := hk.next h7
            refine ⟨hk, times_ok s _ (hs.next hk.below) ((hi.next h6).next h7) (fun w9 h9 => ?_)⟩
            have hk := hk.next h9
            refine ⟨hk, ?_⟩
            repeat (any_goals (first
            | (with_reducible first|refine pureM_in ?_|refine pureQ_in ?_|refine pureH_in ?_|((refine idGdQ ?_); refine gdQ_conv fun _=>?_)|((refine idGdH ?_); refine gdH_conv fun _=>?_)|refine And.intro (Eq.refl (α := World) _) ?_|refine forall_one ?_|((refine idGd ?_); first|refine zA ?_|refine zB ?_|refine zC ?_|refine zD ?_|refine zE ?_|((refine idGdD ?_); first|refine zF ?_|refine zG ?_|refine zH (fun hg=>?_) fun hg=>?_|refine zI ?_|refine zJ ?_|refine zK (fun hg=>?_) fun hg=>?_)|((refine idGdN ?_); first|refine zL ?_|refine zM ?_|refine zN (fun hg=>?_) fun hg=>?_|refine zO ?_|refine zP ?_|refine zQ (fun hg=>?_) fun hg=>?_)|refine zR ?_|refine zS ?_|refine zT ?_|refine zU ?_|refine zV ?_|refine zW ?_|refine zX (fun hg=>?_) fun hg=>?_|refine zY ?_|refine zZ ?_|refine yA (fun hg=>?_) fun hg=>?_)|((refine idPick ?_); first|refine yB ?_|refine yC ?_|refine yD ?_|refine yE ?_|refine yF ?_|refine yG ?_|refine yH ?_|refine yI ?_|refine yJ ?_|refine yK ?_)|((refine idCond ?_); first|refine yL ?_|refine yM ?_|refine yN ?_|refine yO ?_|refine yP (fun hg=>?_) fun hg=>?_|refine yQ ?_|refine yR ?_|refine yS (fun hg=>?_) fun hg=>?_|refine yT ?_|refine yU ?_|refine yV (fun hg=>?_) fun hg=>?_|refine yW ?_|refine yX ?_|refine yY (fun hg=>?_) fun hg=>?_))
            | ((with_reducible refine idOQ ?_); first|(with_reducible first|refine wA ?_|refine wB ?_|refine wC ?_|refine wD ?_|refine wE ?_|refine wF ?_|refine oQ_nil ?_)|((with_reducible refine oQ_one ?_ ?_); exact ⟨_, rfl⟩)|(with_reducible refine oQ_of ⟨_, rfl⟩ (fun W0 hW0 => by (refine oM_gen (fun Kv hK => ?_)); simp [go_sem]; (first | exact hK _ _ ⟨rfl, rfl⟩ | exact ⟨by omega, hK _ _ ⟨rfl, rfl⟩⟩)) ?_))
            | ((with_reducible refine idOH ?_); first|(with_reducible first|refine vA ?_|refine vB ?_|refine vC ?_|refine vD ?_|refine vE ?_|refine vF ?_|refine oH_nil ?_)|(with_reducible refine oH_of ⟨_, rfl⟩ (fun W0 hW0 => by (refine oM_gen (fun Kv hK => ?_)); simp [go_sem]; (first | exact hK _ _ ⟨rfl, rfl⟩ | exact ⟨by omega, hK _ _ ⟨rfl, rfl⟩⟩)) ?_))
            | ((with_reducible refine idO ?_); (with_reducible refine oM_gen fun Kv hK=>?_); simp [go_sem]; (try simp (disch := omega) only [wrapI64, wrapU8, wrapU32, wrapU64]); (first|refine hK _ _ ?_|refine And.intro (by omega) (hK _ _ ?_)); clear hK; clear Kv)))
            exact ⟨hk, k2 _ _ e hk.below⟩
      · have hl' : ¬ (x.answers.length : Int) = s.bases.length := by omega
        repeat (any_goals (first
        | (with_reducible first|refine pureM_in ?_|refine pureQ_in ?_|refine pureH_in ?_|((refine idGdQ ?_); refine gdQ_conv fun _=>?_)|((refine idGdH ?_); refine gdH_conv fun _=>?_)|refine And.intro (Eq.refl (α := World) _) ?_|refine forall_one ?_|((refine idGd ?_); first|refine zA ?_|refine zB ?_|refine zC ?_|refine zD ?_|refine zE ?_|((refine idGdD ?_); first|refine zF ?_|refine zG ?_|refine zH (fun hg=>?_) fun hg=>?_|refine zI ?_|refine zJ ?_|refine zK (fun hg=>?_) fun hg=>?_)|((refine idGdN ?_); first|refine zL ?_|refine zM ?_|refine zN (fun hg=>?_) fun hg=>?_|refine zO ?_|refine zP ?_|refine zQ (fun hg=>?_) fun hg=>?_)|refine zR ?_|refine zS ?_|refine zT ?_|refine zU ?_|refine zV ?_|refine zW ?_|refine zX (fun hg=>?_) fun hg=>?_|refine zY ?_|refine zZ ?_|refine yA (fun hg=>?_) fun hg=>?_)|((refine idPick ?_); first|refine yB ?_|refine yC ?_|refine yD ?_|refine yE ?_|refine yF ?_|refine yG ?_|refine yH ?_|refine yI ?_|refine yJ ?_|refine yK ?_)|((refine idCond ?_); first|refine yL ?_|refine yM ?_|refine yN ?_|refine yO ?_|refine yP (fun hg=>?_) fun hg=>?_|refine yQ ?_|refine yR ?_|refine yS (fun hg=>?_) fun hg=>?_|refine yT ?_|refine yU ?_|refine yV (fun hg=>?_) fun hg=>?_|refine yW ?_|refine yX ?_|refine yY (fun hg=>?_) fun hg=>?_))
        | ((with_reducible refine idOQ ?_); first|(with_reducible first|refine wA ?_|refine wB ?_|refine wC ?_|refine wD ?_|refine wE ?_|refine wF ?_|refine oQ_nil ?_)|((with_reducible refine oQ_one ?_ ?_); exact ⟨_, rfl⟩)|(with_reducible refine oQ_of ⟨_, rfl⟩ (fun W0 hW0 => by (refine oM_gen (fun Kv hK => ?_)); simp [go_sem]; (first | exact hK _ _ ⟨rfl, rfl⟩ | exact ⟨by omega, hK _ _ ⟨rfl, rfl⟩⟩)) ?_))
        | ((with_reducible refine idOH ?_); first|(with_reducible first|refine vA ?_|refine vB ?_|refine vC ?_|refine vD ?_|refine vE ?_|refine vF ?_|refine oH_nil ?_)|(with_reducible refine oH_of ⟨_, rfl⟩ (fun W0 hW0 => by (refine oM_gen (fun Kv hK => ?_)); simp [go_sem]; (first | exact hK _ _ ⟨rfl, rfl⟩ | exact ⟨by omega, hK _ _ ⟨rfl, rfl⟩⟩)) ?_))
        | ((with_reducible refine idO ?_); (with_reducible refine oM_gen fun Kv hK=>?_); simp [go_sem, hk.cells, hl']; (try simp (disch := omega) only [wrapI64, wrapU8, wrapU32, wrapU64]); (first|refine hK _ _ ?_|refine And.intro (by omega) (hK _ _ ?_)); clear hK; clear Kv)))
        exact k2 _ _ (acceptsM_no (.inr (.inr (.inl hlen)))) hk.below
end
end Go.Proofs
--G
namespace Go.Proofs
open Go Go.Sh Go.RowKit FdSpec TkSpec
set_option linter.unusedSimpArgs false
set_option linter.unusedVariables false
set_option maxRecDepth 10000
section
variable {K : Value → World → Prop} {w w0 : World} {L : List (Addr × Value)}
/-- a row of ints of one's own, from block B on -/
abbrev OwnI (w : World) (B : Nat) (v : Value) (l : List Int) : Prop := w.ownsRow B 3 1 v l.length (flat intC l)
theorem OwnI.ints {B : Nat} {v : Value} {l : List Int} (h : OwnI w B v l) (hr : ∀ n ∈ l, I64 n) (hl : l.length ≤ 4611686018427387904) : Ints w v l := Ints.of_owns h hr hl
theorem owns_up {B C : Nat} {e : TypeId} {sz : Nat} {v : Value} {n : Nat} {xs : List Value} (h : w.ownsRow B e sz v n xs) (hc : ∀ i, v.ownBlock = some i → C ≤ i) : w.ownsRow C e sz v n xs := by
  refine ⟨h.1, h.2.imp id ?_⟩
  rintro ⟨g, cap, cur, rfl, hb, hr⟩
  exact ⟨g, cap, cur, rfl, hc g rfl, hr⟩
theorem OwnI.keep {B : Nat} {v : Value} {l : List Int} {w' : World} (h : OwnI w B v l) (hb : Below w.heap.size w w') : OwnI w' B v l :=
  owns_keep h (fun i hi => hb.block i (owns_own h hi).1)
theorem append1 {B : Nat} {T : TypeId} {v xv : Value} {l : List Int} {x : Int} (ho : OwnI w B v l) (hB : B ≤ w.heap.size) (hx : Ints w xv [x]) (hl : l.length < 1099511627776)
    (k : ∀ v' w', OwnI w' B v' (l ++ [x]) → Below B w w' → K v' w') : oM Tryz.prog (.call { callee := .builtin .append, args := #[.tmp 0, .tmp 1], argTypes := #[22, 22] }) T [v, xv] K w := by
  obtain ⟨⟨ad, c, rfl, h0, hc⟩, hr, _⟩ := hx
  have hc := hc.resolve_left (by simp)
  obtain ⟨b, o, rfl, hlt, hcell⟩ := hc
  refine append_at 22 T 3 ((Tryz.prog.info? 3).getD default) (.int .i64 0) 1 8 (by kernel_rfl) (by kernel_rfl) (by kernel_rfl) (by kernel_rfl) (by kernel_rfl) (by kernel_rfl) (by omega) (owns_base ho (Nat.zero_le _)) [.int .i64 x] (by simp) (by simp) ?_ ?_ (by simp only [maxLen, List.length_singleton]; omega) (by simp only [List.length_singleton]; omega) ?_
  · rintro a ha j u hj
    cases ha
    rw [add_none]
    exact hcell j u hj
  · intro u hu
    simp only [List.mem_singleton] at hu
    subst hu; rfl
  · intro v' w' ho' hg hv
    have hbl : ∀ i, v.ownBlock = some i → B ≤ i := fun i hi => (owns_own ho hi).2.1
    refine k v' w' ?_ ((Below.refl B w).grown hg hB hbl)
    have e1 : (l ++ [x]).length = l.length + [x].length := by simp
    have e2 : flat intC (l ++ [x]) = flat intC l ++ [Value.int .i64 x] := by rw [flat_int, flat_int]; simp
    show w'.ownsRow B 3 1 v' (l ++ [x]).length (flat intC (l ++ [x]))
    rw [e1, e2]
    exact owns_up ho' (fun i hi => (hv i hi).elim (hbl i) (fun h => Nat.le_trans hB h))
theorem Same_ok {v u : Value} {a b : List Int} (ha : Ints w v a) (hb : Ints w u b) (k : ∀ w', Below w.heap.size w w' → K (.bool (decide (a = b))) w') : callM Tryz.prog 59 #[v, u] K w := by
  apply sh_59_ok
  unfold sh_59
  obtain ⟨ad1, c1, rfl⟩ := ha.isSlice
  obtain ⟨ad2, c2, rfl⟩ := hb.isSlice
  have l1 := ha.len
  have l2 := hb.len
  by_cases hl : a.length = b.length
  · repeat (any_goals (first
    | (with_reducible first|refine pureM_in ?_|((refine idGd ?_); first|refine zA ?_|refine zB ?_|refine zC ?_|refine zD ?_|refine zE ?_|((refine idGdD ?_); first|refine zF ?_|refine zG ?_|refine zH (fun hg=>?_) fun hg=>?_|refine zI ?_|refine zJ ?_|refine zK (fun hg=>?_) fun hg=>?_)|((refine idGdN ?_); first|refine zL ?_|refine zM ?_|refine zN (fun hg=>?_) fun hg=>?_|refine zO ?_|refine zP ?_|refine zQ (fun hg=>?_) fun hg=>?_)|refine zR ?_|refine zS ?_|refine zT ?_|refine zU ?_|refine zV ?_|refine zW ?_|refine zX (fun hg=>?_) fun hg=>?_|refine zY ?_|refine zZ ?_|refine yA (fun hg=>?_) fun hg=>?_)|((refine idPick ?_); first|refine yB ?_|refine yC ?_|refine yD ?_|refine yE ?_|refine yF ?_|refine yG ?_|refine yH ?_|refine yI ?_|refine yJ ?_|refine yK ?_)|((refine idCond ?_); first|refine yL ?_|refine yM ?_|refine yN ?_|refine yO ?_|refine yP (fun hg=>?_) fun hg=>?_|refine yQ ?_|refine yR ?_|refine yS (fun hg=>?_) fun hg=>?_|refine yT ?_|refine yU ?_|refine yV (fun hg=>?_) fun hg=>?_|refine yW ?_|refine yX ?_|refine yY (fun hg=>?_) fun hg=>?_))
    | ((with_reducible refine idO ?_); (with_reducible refine oM_gen fun Kv hK=>?_); simp [go_sem, hl]; (try simp (disch := omega) only [wrapI64, wrapU8, wrapU32, wrapU64]); (first|refine hK _ _ ?_|refine And.intro (by omega) (hK _ _ ?_)); clear hK; clear Kv)))
    refine ⟨fun vs w' => Below w.heap.size w w' ∧ ∃ (v : Value) (i : Nat), vs = [v, .int .i64 (i : Int)] ∧ i ≤ a.length ∧ a.take i = b.take i, fun vs _ => match vs with | [_, .int _ i] => b.length - i.toNat | _ => 0, ⟨Below.refl _ _, _, 0, rfl, by omega, rfl⟩, ?_⟩
    rintro _ _ w1 ⟨h1, u1, i, rfl, hi, he⟩
    by_cases hin : i = b.length
    · have e : a = b := by
        rw [List.take_of_length_le (by omega), List.take_of_length_le (by omega)] at he
        exact he
      have k := k _ h1
      rw [decide_eq_true e] at k
      repeat (any_goals (first
      | (with_reducible first|refine pureM_in ?_|((refine idGd ?_); first|refine zA ?_|refine zB ?_|refine zC ?_|refine zD ?_|refine zE ?_|((refine idGdD ?_); first|refine zF ?_|refine zG ?_|refine zH (fun hg=>?_) fun hg=>?_|refine zI ?_|refine zJ ?_|refine zK (fun hg=>?_) fun hg=>?_)|((refine idGdN ?_); first|refine zL ?_|refine zM ?_|refine zN (fun hg=>?_) fun hg=>?_|refine zO ?_|refine zP ?_|refine zQ (fun hg=>?_) fun hg=>?_)|refine zR ?_|refine zS ?_|refine zT ?_|refine zU ?_|refine zV ?_|refine zW ?_|refine zX (fun hg=>?_) fun hg=>?_|refine zY ?_|refine zZ ?_|refine yA (fun hg=>?_) fun hg=>?_)|((refine idPick ?_); first|refine yB ?_|refine yC ?_|refine yD ?_|refine yE ?_|refine yF ?_|refine yG ?_|refine yH ?_|refine yI ?_|refine yJ ?_|refine yK ?_)|((refine idCond ?_); first|refine yL ?_|refine yM ?_|refine yN ?_|refine yO ?_|refine yP (fun hg=>?_) fun hg=>?_|refine yQ ?_|refine yR ?_|refine yS (fun hg=>?_) fun hg=>?_|refine yT ?_|refine yU ?_|refine yV (fun hg=>?_) fun hg=>?_|refine yW ?_|refine yX ?_|refine yY (fun hg=>?_) fun hg=>?_))
      | ((with_reducible refine idO ?_); (with_reducible refine oM_gen fun Kv hK=>?_); simp [go_sem, hl]; (try simp (disch := omega) only [wrapI64, wrapU8, wrapU32, wrapU64]); (first|refine hK _ _ ?_|refine And.intro (by omega) (hK _ _ ?_)); clear hK; clear Kv)))
      exact k
    · obtain ⟨b1, o1, rfl, hb1, ca, ra, _⟩ := ha.at (i := i) (by omega)
      obtain ⟨b2, o2, rfl, hb2, cb, rb, _⟩ := hb.at (i := i) (by omega)
      repeat (any_goals (first
      | (with_reducible first|refine pureM_in ?_|((refine idGd ?_); first|refine zA ?_|refine zB ?_|refine zC ?_|refine zD ?_|refine zE ?_|((refine idGdD ?_); first|refine zF ?_|refine zG ?_|refine zH (fun hg=>?_) fun hg=>?_|refine zI ?_|refine zJ ?_|refine zK (fun hg=>?_) fun hg=>?_)|((refine idGdN ?_); first|refine zL ?_|refine zM ?_|refine zN (fun hg=>?_) fun hg=>?_|refine zO ?_|refine zP ?_|refine zQ (fun hg=>?_) fun hg=>?_)|refine zR ?_|refine zS ?_|refine zT ?_|refine zU ?_|refine zV ?_|refine zW ?_|refine zX (fun hg=>?_) fun hg=>?_|refine zY ?_|refine zZ ?_|refine yA (fun hg=>?_) fun hg=>?_)|((refine idPick ?_); first|refine yB ?_|refine yC ?_|refine yD ?_|refine yE ?_|refine yF ?_|refine yG ?_|refine yH ?_|refine yI ?_|refine yJ ?_|refine yK ?_)|((refine idCond ?_); first|refine yL ?_|refine yM ?_|refine yN ?_|refine yO ?_|refine yP (fun hg=>?_) fun hg=>?_|refine yQ ?_|refine yR ?_|refine yS (fun hg=>?_) fun hg=>?_|refine yT ?_|refine yU ?_|refine yV (fun hg=>?_) fun hg=>?_|refine yW ?_|refine yX ?_|refine yY (fun hg=>?_) fun hg=>?_))
      | ((with_reducible refine idO ?_); (with_reducible refine oM_gen fun Kv hK=>?_); simp [go_sem, hl]; (try simp (disch := omega) only [wrapI64, wrapU8, wrapU32, wrapU64]); (first|refine hK _ _ ?_|refine And.intro (by omega) (hK _ _ ?_)); clear hK; clear Kv)))
      refine ⟨Below w.heap.size w, h1.trans .drawn, ?_⟩
      by_cases hx : a[i] = b[i]
      · repeat (any_goals (first
        | (with_reducible first|refine pureM_in ?_|refine pureQ_in ?_|refine pureH_in ?_|((refine idGdQ ?_); refine gdQ_conv fun _=>?_)|((refine idGdH ?_); refine gdH_conv fun _=>?_)|refine And.intro (Eq.refl (α := World) _) ?_|refine forall_one ?_|((refine idGd ?_); first|refine zA ?_|refine zB ?_|refine zC ?_|refine zD ?_|refine zE ?_|((refine idGdD ?_); first|refine zF ?_|refine zG ?_|refine zH (fun hg=>?_) fun hg=>?_|refine zI ?_|refine zJ ?_|refine zK (fun hg=>?_) fun hg=>?_)|((refine idGdN ?_); first|refine zL ?_|refine zM ?_|refine zN (fun hg=>?_) fun hg=>?_|refine zO ?_|refine zP ?_|refine zQ (fun hg=>?_) fun hg=>?_)|refine zR ?_|refine zS ?_|refine zT ?_|refine zU ?_|refine zV ?_|refine zW ?_|refine zX (fun hg=>?_) fun hg=>?_|refine zY ?_|refine zZ ?_|refine yA (fun hg=>?_) fun hg=>?_)|((refine idPick ?_); first|refine yB ?_|refine yC ?_|refine yD ?_|refine yE ?_|refine yF ?_|refine yG ?_|refine yH ?_|refine yI ?_|refine yJ ?_|refine yK ?_)|((refine idCond ?_); first|refine yL ?_|refine yM ?_|refine yN ?_|refine yO ?_|refine yP (fun hg=>?_) fun hg=>?_|refine yQ ?_|refine yR ?_|refine yS (fun hg=>?_) fun hg=>?_|refine yT ?_|refine yU ?_|refine yV (fun hg=>?_) fun hg=>?_|refine yW ?_|refine yX ?_|refine yY (fun hg=>?_) fun hg=>?_))
        | ((with_reducible refine idOQ ?_); first|(with_reducible first|refine wA ?_|refine wB ?_|refine wC ?_|refine wD ?_|refine wE ?_|refine wF ?_|refine oQ_nil ?_)|((with_reducible refine oQ_one ?_ ?_); exact ⟨_, rfl⟩)|(with_reducible refine oQ_of ⟨_, rfl⟩ (fun W0 hW0 => by (refine oM_gen (fun Kv hK => ?_)); simp [go_sem, ca _ hW0, cb _ hW0, hl, hx]; (first | exact hK _ _ ⟨rfl, rfl⟩ | exact ⟨by omega, hK _ _ ⟨rfl, rfl⟩⟩)) ?_))
        | ((with_reducible refine idOH ?_); first|(with_reducible first|refine vA ?_|refine vB ?_|refine vC ?_|refine vD ?_|refine vE ?_|refine vF ?_|refine oH_nil ?_)|(with_reducible refine oH_of ⟨_, rfl⟩ (fun W0 hW0 => by (refine oM_gen (fun Kv hK => ?_)); simp [go_sem, ca _ hW0, cb _ hW0, hl, hx]; (first | exact hK _ _ ⟨rfl, rfl⟩ | exact ⟨by omega, hK _ _ ⟨rfl, rfl⟩⟩)) ?_))
        | ((with_reducible refine idO ?_); (with_reducible refine oM_gen fun Kv hK=>?_); simp [go_sem]; (try simp (disch := omega) only [wrapI64, wrapU8, wrapU32, wrapU64]); (first|refine hK _ _ ?_|refine And.intro (by omega) (hK _ _ ?_)); clear hK; clear Kv)))
        intro w2 h2
        repeat (any_goals (first
        | (with_reducible first|refine pureM_in ?_|((refine idGd ?_); first|refine zA ?_|refine zB ?_|refine zC ?_|refine zD ?_|refine zE ?_|((refine idGdD ?_); first|refine zF ?_|refine zG ?_|refine zH (fun hg=>?_) fun hg=>?_|refine zI ?_|refine zJ ?_|refine zK (fun hg=>?_) fun hg=>?_)|((refine idGdN ?_); first|refine zL ?_|refine zM ?_|refine zN (fun hg=>?_) fun hg=>?_|refine zO ?_|refine zP ?_|refine zQ (fun hg=>?_) fun hg=>?_)|refine zR ?_|refine zS ?_|refine zT ?_|refine zU ?_|refine zV ?_|refine zW ?_|refine zX (fun hg=>?_) fun hg=>?_|refine zY ?_|refine zZ ?_|refine yA (fun hg=>?_) fun hg=>?_)|((refine idPick ?_); first|refine yB ?_|refine yC ?_|refine yD ?_|refine yE ?_|refine yF ?_|refine yG ?_|refine yH ?_|refine yI ?_|refine yJ ?_|refine yK ?_)|((refine idCond ?_); first|refine yL ?_|refine yM ?_|refine yN ?_|refine yO ?_|refine yP (fun hg=>?_) fun hg=>?_|refine yQ ?_|refine yR ?_|refine yS (fun hg=>?_) fun hg=>?_|refine yT ?_|refine yU ?_|refine yV (fun hg=>?_) fun hg=>?_|refine yW ?_|refine yX ?_|refine yY (fun hg=>?_) fun hg=>?_))
        | ((with_reducible refine idO ?_); (with_reducible refine oM_gen fun Kv hK=>?_); simp [go_sem, hx]; (try simp (disch := omega) only [wrapI64, wrapU8, wrapU32, wrapU64]); (first|refine hK _ _ ?_|refine And.intro (by omega) (hK _ _ ?_)); clear hK; clear Kv)))
        refine ⟨⟨h2, _, i + 1, rfl, by omega, ?_⟩, by show b.length - (((i + 1 : Nat) : Int)).toNat < b.length - ((i : Nat) : Int).toNat; omega⟩
        rw [List.take_succ_eq_append_getElem (by omega), List.take_succ_eq_append_getElem (by omega), he, hx]
      · repeat (any_goals (first
        | (with_reducible first|refine pureM_in ?_|refine pureQ_in ?_|refine pureH_in ?_|((refine idGdQ ?_); refine gdQ_conv fun _=>?_)|((refine idGdH ?_); refine gdH_conv fun _=>?_)|refine And.intro (Eq.refl (α := World) _) ?_|refine forall_one ?_|((refine idGd ?_); first|refine zA ?_|refine zB ?_|refine zC ?_|refine zD ?_|refine zE ?_|((refine idGdD ?_); first|refine zF ?_|refine zG ?_|refine zH (fun hg=>?_) fun hg=>?_|refine zI ?_|refine zJ ?_|refine zK (fun hg=>?_) fun hg=>?_)|((refine idGdN ?_); first|refine zL ?_|refine zM ?_|refine zN (fun hg=>?_) fun hg=>?_|refine zO ?_|refine zP ?_|refine zQ (fun hg=>?_) fun hg=>?_)|refine zR ?_|refine zS ?_|refine zT ?_|refine zU ?_|refine zV ?_|refine zW ?_|refine zX (fun hg=>?_) fun hg=>?_|refine zY ?_|refine zZ ?_|refine yA (fun hg=>?_) fun hg=>?_)|((refine idPick ?_); first|refine yB ?_|refine yC ?_|refine yD ?_|refine yE ?_|refine yF ?_|refine yG ?_|refine yH ?_|refine yI ?_|refine yJ ?_|refine yK ?_)|((refine idCond ?_); first|refine yL ?_|refine yM ?_|refine yN ?_|refine yO ?_|refine yP (fun hg=>?_) fun hg=>?_|refine yQ ?_|refine yR ?_|refine yS (fun hg=>?_) fun hg=>?_|refine yT ?_|refine yU ?_|refine yV (fun hg=>?_) fun hg=>?_|refine yW ?_|refine yX ?_|refine yY (fun hg=>?_) fun hg=>?_))
        | ((with_reducible refine idOQ ?_); first|(with_reducible first|refine wA ?_|refine wB ?_|refine wC ?_|refine wD ?_|refine wE ?_|refine wF ?_|refine oQ_nil ?_)|((with_reducible refine oQ_one ?_ ?_); exact ⟨_, rfl⟩)|(with_reducible refine oQ_of ⟨_, rfl⟩ (fun W0 hW0 => by (refine oM_gen (fun Kv hK => ?_)); simp [go_sem, ca _ hW0, cb _ hW0, hl, hx]; (first | exact hK _ _ ⟨rfl, rfl⟩ | exact ⟨by omega, hK _ _ ⟨rfl, rfl⟩⟩)) ?_))
        | ((with_reducible refine idOH ?_); first|(with_reducible first|refine vA ?_|refine vB ?_|refine vC ?_|refine vD ?_|refine vE ?_|refine vF ?_|refine oH_nil ?_)|(with_reducible refine oH_of ⟨_, rfl⟩ (fun W0 hW0 => by (refine oM_gen (fun Kv hK => ?_)); simp [go_sem, ca _ hW0, cb _ hW0, hl, hx]; (first | exact hK _ _ ⟨rfl, rfl⟩ | exact ⟨by omega, hK _ _ ⟨rfl, rfl⟩⟩)) ?_))
        | ((with_reducible refine idO ?_); (with_reducible refine oM_gen fun Kv hK=>?_); simp [go_sem]; (try simp (disch := omega) only [wrapI64, wrapU8, wrapU32, wrapU64]); (first|refine hK _ _ ?_|refine And.intro (by omega) (hK _ _ ?_)); clear hK; clear Kv)))
        intro w2 h2
        have k := k _ h2
        rw [decide_eq_false (by rintro rfl; exact hx rfl)] at k
        repeat (any_goals (first
        | (with_reducible first|refine pureM_in ?_|((refine idGd ?_); first|refine zA ?_|refine zB ?_|refine zC ?_|refine zD ?_|refine zE ?_|((refine idGdD ?_); first|refine zF ?_|refine zG ?_|refine zH (fun hg=>?_) fun hg=>?_|refine zI ?_|refine zJ ?_|refine zK (fun hg=>?_) fun hg=>?_)|((refine idGdN ?_); first|refine zL ?_|refine zM ?_|refine zN (fun hg=>?_) fun hg=>?_|refine zO ?_|refine zP ?_|refine zQ (fun hg=>?_) fun hg=>?_)|refine zR ?_|refine zS ?_|refine zT ?_|refine zU ?_|refine zV ?_|refine zW ?_|refine zX (fun hg=>?_) fun hg=>?_|refine zY ?_|refine zZ ?_|refine yA (fun hg=>?_) fun hg=>?_)|((refine idPick ?_); first|refine yB ?_|refine yC ?_|refine yD ?_|refine yE ?_|refine yF ?_|refine yG ?_|refine yH ?_|refine yI ?_|refine yJ ?_|refine yK ?_)|((refine idCond ?_); first|refine yL ?_|refine yM ?_|refine yN ?_|refine yO ?_|refine yP (fun hg=>?_) fun hg=>?_|refine yQ ?_|refine yR ?_|refine yS (fun hg=>?_) fun hg=>?_|refine yT ?_|refine yU ?_|refine yV (fun hg=>?_) fun hg=>?_|refine yW ?_|refine yX ?_|refine yY (fun hg=>?_) fun hg=>?_))
        | ((with_reducible refine idO ?_); (with_reducible refine oM_gen fun Kv hK=>?_); simp [go_sem, hx]; (try simp (disch := omega) only [wrapI64, wrapU8, wrapU32, wrapU64]); (first|refine hK _ _ ?_|refine And.intro (by omega) (hK _ _ ?_)); clear hK; clear Kv)))
        exact k
  · have hl' : ¬ (a.length : Int) = b.length := by omega
    have k := k _ (Below.refl _ _)
    rw [decide_eq_false (by rintro rfl; exact hl rfl)] at k
    repeat (any_goals (first
    | (with_reducible first|refine pureM_in ?_|((refine idGd ?_); first|refine zA ?_|refine zB ?_|refine zC ?_|refine zD ?_|refine zE ?_|((refine idGdD ?_); first|refine zF ?_|refine zG ?_|refine zH (fun hg=>?_) fun hg=>?_|refine zI ?_|refine zJ ?_|refine zK (fun hg=>?_) fun hg=>?_)|((refine idGdN ?_); first|refine zL ?_|refine zM ?_|refine zN (fun hg=>?_) fun hg=>?_|refine zO ?_|refine zP ?_|refine zQ (fun hg=>?_) fun hg=>?_)|refine zR ?_|refine zS ?_|refine zT ?_|refine zU ?_|refine zV ?_|refine zW ?_|refine zX (fun hg=>?_) fun hg=>?_|refine zY ?_|refine zZ ?_|refine yA (fun hg=>?_) fun hg=>?_)|((refine idPick ?_); first|refine yB ?_|refine yC ?_|refine yD ?_|refine yE ?_|refine yF ?_|refine yG ?_|refine yH ?_|refine yI ?_|refine yJ ?_|refine yK ?_)|((refine idCond ?_); first|refine yL ?_|refine yM ?_|refine yN ?_|refine yO ?_|refine yP (fun hg=>?_) fun hg=>?_|refine yQ ?_|refine yR ?_|refine yS (fun hg=>?_) fun hg=>?_|refine yT ?_|refine yU ?_|refine yV (fun hg=>?_) fun hg=>?_|refine yW ?_|refine yX ?_|refine yY (fun hg=>?_) fun hg=>?_))
    | ((with_reducible refine idO ?_); (with_reducible refine oM_gen fun Kv hK=>?_); simp [go_sem, hl']; (try simp (disch := omega) only [wrapI64, wrapU8, wrapU32, wrapU64]); (first|refine hK _ _ ?_|refine And.intro (by omega) (hK _ _ ?_)); clear hK; clear Kv)))
    exact k
end
end Go.Proofs
--G
namespace Go.Proofs
open Go Go.Sh Go.RowKit FdSpec TkSpec
set_option linter.unusedSimpArgs false
set_option linter.unusedVariables false
set_option maxRecDepth 10000
section
variable {K : Value → World → Prop} {w w0 : World} {L : List (Addr × Value)}
theorem accepts_len {s : Stp} {t : Tkt} {x : Spd} (h : acceptsM s t x = true) : x.answers.length = s.bases.length ∧ validS s = true := by
  unfold acceptsM at h
  split at h
  · rename_i hc
    simp only [Bool.and_eq_true, decide_eq_true_eq] at hc
    refine ⟨hc.1.2, ?_⟩
    have hf := hc.1.1.1
    unfold formedM at hf
    simp only [Bool.and_eq_true] at hf
    exact hf.1.1.1
  · cases h
def gapL (s : Stp) (a b : Spd) : List Int := (a.answers.zip b.answers).map fun p => lessQ s p.1 p.2
theorem gapL_len {s : Stp} {a b : Spd} {n : Nat} (ha : a.answers.length = n) (hb : b.answers.length = n) : (gapL s a b).length = n := by
  simp [gapL, ha, hb]
theorem gapL_at {s : Stp} {a b : Spd} {i : Nat} (ha : i < a.answers.length) (hb : i < b.answers.length) (hg : i < (gapL s a b).length) : (gapL s a b)[i] = lessQ s a.answers[i] b.answers[i] := by
  simp [gapL]
theorem gapL_rng {s : Stp} {a b : Spd} : ∀ n ∈ gapL s a b, I64 n := by
  intro n hn
  obtain ⟨p, _, rfl⟩ := List.mem_map.1 hn
  exact subM_I64 _ _ _
theorem gapsM_no {s : Stp} {t : Tkt} {a b : Spd} (h : a.dare = b.dare ∨ acceptsM s t a = false ∨ acceptsM s t b = false) : gapsM s t a b = ([], false) := by
  unfold gapsM
  rw [if_pos]
  rcases h with h | h | h <;> simp [h]
theorem gapsM_yes {s : Stp} {t : Tkt} {a b : Spd} (h1 : ¬ a.dare = b.dare) (h2 : acceptsM s t a = true) (h3 : acceptsM s t b = true) : gapsM s t a b = (gapL s a b, !decide ((gapL s a b).headD 0 = 0)) := by
  unfold gapsM
  rw [if_neg (by simp [h1, h2, h3])]
  rfl
theorem _root_.Go.Sh.KnM.add1 {g n : Nat} (h : KnM w0 L g n w) {b o : Nat} {v : Value} (hc : w.cell? ⟨b, o, none⟩ = some v) (hne : b ≠ g) : KnM w0 ((⟨b, o, none⟩, v) :: L) g n w :=
  ⟨⟨h.kn.below, hc, h.kn.cells⟩, h.mine, h.base, fun p hp => (List.mem_cons.1 hp).elim (fun e => by rw [e]; exact hne) (h.off p)⟩
theorem store_desk2 {K : Value → World → Prop} {T' : TypeId} {g : Nat} (s : Stp) (ad : Option Addr) (m c : Nat) (hk : KnM w0 L g 5 w)
    (k : ∀ W, KnM w0 L g 5 W → cellsAre W (cellsOf [] g 0 (stpC s (.slice ad m c))) → w.grownBy W (some g) → K undef W) : oM Tryz.prog (.store 111 (.tmp 0) (.tmp 1)) T' [.pointer (some ⟨g, 0, none⟩), stpV s (.slice ad m c)] K w := by
  obtain ⟨W, e, hg, hm, hc⟩ := store_run (P := Tryz.prog) (W := w) sz_desk (x := stpV s (.slice ad m c)) rfl rfl (stp_one s ad m c) hk.mine
  rw [oM_store, e]
  exact k W ⟨hk.kn.wrote hg hk.base hk.off, hm, hk.base, hk.off⟩ hc hg
@[reducible] def zstp : Stp := ⟨⟨0, 0, 0⟩, [], 0⟩
def GpJ (gl : List Int) (Wl : World) (vs : List Value) (w' : World) : Prop := Below Wl.heap.size Wl w' ∧ ∃ (v u o : Value) (i : Nat), vs = [v, u, o, .int .i64 (i : Int)] ∧ i ≤ gl.length ∧ OwnI w' Wl.heap.size o (gl.take i)
theorem gaps_ok (s : Stp) (t : Tkt) (x y : Spd) {v xv yv : Value} (ht : TktR t) (hs : SetR w s v) (hx : SpdR w x xv) (hy : SpdR w y yv)
    (k : ∀ w' s' ad n c ov, Below w.heap.size w w' → Ints w' ov (gapsM s t x y).1 → (∃ ad n c, ov = .slice ad n c ∧ n ≤ c) → ((gapsM s t x y).2 = true → stpV s' (.slice ad n c) = stpV s v) → K (.tuple #[stpV s' (.slice ad n c), ov, .bool (gapsM s t x y).2]) w') : callM Tryz.prog 120 #[stpV s v, tktV t, spdV x xv, spdV y yv] K w := by
  apply sh_120_ok
  unfold sh_120
  obtain ⟨ad, c, rfl⟩ := hs.ints.isSlice
  have hxa := hx.answers
  have hya := hy.answers
  have hx0 := hx
  have hy0 := hy
  obtain ⟨xad, xc, rfl⟩ := hx.answers.isSlice
  obtain ⟨yad, yc, rfl⟩ := hy.answers.isSlice
  have k0 : ∀ w', gapsM s t x y = ([], false) → Below w.heap.size w w' → K (.tuple #[stpV zstp (.slice none 0 0), .slice none 0 0, .bool false]) w' := fun w' e hb => by
    rw [e] at k
    exact k w' zstp none 0 0 _ hb (Ints.nil _) ⟨_, _, _, rfl, Nat.le_refl _⟩ (by simp)
  have k2 : ∀ w' ov l r, gapsM s t x y = (l, r) → Below w.heap.size w w' → Ints w' ov l → (∃ ad n c, ov = .slice ad n c ∧ n ≤ c) → K (.tuple #[stpV s (.slice ad s.bases.length c), ov, .bool r]) w' := fun w' ov l r e hb hi hcp => by
    rw [e] at k
    exact k w' s _ _ _ ov hb hi hcp (fun _ => rfl)
  clear k
  refine box_kn (cs := stpC s (.slice ad s.bases.length c)) rfl (.start w) fun b1 W hk hb1 hbb => ?_
  refine box_kn (cs := tktC t) rfl hk fun b2 W2 hk hb2 hbb => ?_
  refine box_kn (cs := spdC x (.slice xad x.answers.length xc)) rfl hk fun b3 W3 hk hb3 hbb => ?_
  refine box_kn (cs := spdC y (.slice yad y.answers.length yc)) rfl hk fun b4 W4 hk hb4 hbb => ?_
  refine alloc_mine (n := 5) al_desk rfl hk fun g W2 hk hb2 hg => ?_
  clear hb1 hb2 hb3 hb4
  by_cases hd : x.dare = y.dare
  · repeat (any_goals (first
    | (with_reducible first|refine pureM_in ?_|((refine idGd ?_); first|refine zA ?_|refine zB ?_|refine zC ?_|refine zD ?_|refine zE ?_|((refine idGdD ?_); first|refine zF ?_|refine zG ?_|refine zH (fun hg=>?_) fun hg=>?_|refine zI ?_|refine zJ ?_|refine zK (fun hg=>?_) fun hg=>?_)|((refine idGdN ?_); first|refine zL ?_|refine zM ?_|refine zN (fun hg=>?_) fun hg=>?_|refine zO ?_|refine zP ?_|refine zQ (fun hg=>?_) fun hg=>?_)|refine zR ?_|refine zS ?_|refine zT ?_|refine zU ?_|refine zV ?_|refine zW ?_|refine zX (fun hg=>?_) fun hg=>?_|refine zY ?_|refine zZ ?_|refine yA (fun hg=>?_) fun hg=>?_)|((refine idPick ?_); first|refine yB ?_|refine yC ?_|refine yD ?_|refine yE ?_|refine yF ?_|refine yG ?_|refine yH ?_|refine yI ?_|refine yJ ?_|refine yK ?_)|((refine idCond ?_); first|refine yL ?_|refine yM ?_|refine yN ?_|refine yO ?_|refine yP (fun hg=>?_) fun hg=>?_|refine yQ ?_|refine yR ?_|refine yS (fun hg=>?_) fun hg=>?_|refine yT ?_|refine yU ?_|refine yV (fun hg=>?_) fun hg=>?_|refine yW ?_|refine yX ?_|refine yY (fun hg=>?_) fun hg=>?_))
    | ((with_reducible refine idO ?_); (with_reducible refine oM_gen fun Kv hK=>?_); simp [go_sem, hk.cells, hd]; (try simp (disch := omega) only [wrapI64, wrapU8, wrapU32, wrapU64]); (first|refine hK _ _ ?_|refine And.intro (by omega) (hK _ _ ?_)); clear hK; clear Kv)))
    exact store_desk zstp none 0 0 hk (fun W3 hk hc => ⟨_, by simp [go_sem, hc], k0 _ (gapsM_no (.inl hd)) hk.below⟩)
  repeat (any_goals (first
  | (with_reducible first|refine pureM_in ?_|((refine idGd ?_); first|refine zA ?_|refine zB ?_|refine zC ?_|refine zD ?_|refine zE ?_|((refine idGdD ?_); first|refine zF ?_|refine zG ?_|refine zH (fun hg=>?_) fun hg=>?_|refine zI ?_|refine zJ ?_|refine zK (fun hg=>?_) fun hg=>?_)|((refine idGdN ?_); first|refine zL ?_|refine zM ?_|refine zN (fun hg=>?_) fun hg=>?_|refine zO ?_|refine zP ?_|refine zQ (fun hg=>?_) fun hg=>?_)|refine zR ?_|refine zS ?_|refine zT ?_|refine zU ?_|refine zV ?_|refine zW ?_|refine zX (fun hg=>?_) fun hg=>?_|refine zY ?_|refine zZ ?_|refine yA (fun hg=>?_) fun hg=>?_)|((refine idPick ?_); first|refine yB ?_|refine yC ?_|refine yD ?_|refine yE ?_|refine yF ?_|refine yG ?_|refine yH ?_|refine yI ?_|refine yJ ?_|refine yK ?_)|((refine idCond ?_); first|refine yL ?_|refine yM ?_|refine yN ?_|refine yO ?_|refine yP (fun hg=>?_) fun hg=>?_|refine yQ ?_|refine yR ?_|refine yS (fun hg=>?_) fun hg=>?_|refine yT ?_|refine yU ?_|refine yV (fun hg=>?_) fun hg=>?_|refine yW ?_|refine yX ?_|refine yY (fun hg=>?_) fun hg=>?_))
  | ((with_reducible refine idO ?_); (with_reducible refine oM_gen fun Kv hK=>?_); simp [go_sem, hk.cells, hd]; (try simp (disch := omega) only [wrapI64, wrapU8, wrapU32, wrapU64]); (first|refine hK _ _ ?_|refine And.intro (by omega) (hK _ _ ?_)); clear hK; clear Kv)))
  refine Accepts_ok s t x ht (hs.next hk.below) (hx0.next hk.below) (fun w2 h2 => ?_)
  have hk := hk.next h2
  cases ha : acceptsM s t x with
  | false =>
    repeat (any_goals (first
    | (with_reducible first|refine pureM_in ?_|((refine idGd ?_); first|refine zA ?_|refine zB ?_|refine zC ?_|refine zD ?_|refine zE ?_|((refine idGdD ?_); first|refine zF ?_|refine zG ?_|refine zH (fun hg=>?_) fun hg=>?_|refine zI ?_|refine zJ ?_|refine zK (fun hg=>?_) fun hg=>?_)|((refine idGdN ?_); first|refine zL ?_|refine zM ?_|refine zN (fun hg=>?_) fun hg=>?_|refine zO ?_|refine zP ?_|refine zQ (fun hg=>?_) fun hg=>?_)|refine zR ?_|refine zS ?_|refine zT ?_|refine zU ?_|refine zV ?_|refine zW ?_|refine zX (fun hg=>?_) fun hg=>?_|refine zY ?_|refine zZ ?_|refine yA (fun hg=>?_) fun hg=>?_)|((refine idPick ?_); first|refine yB ?_|refine yC ?_|refine yD ?_|refine yE ?_|refine yF ?_|refine yG ?_|refine yH ?_|refine yI ?_|refine yJ ?_|refine yK ?_)|((refine idCond ?_); first|refine yL ?_|refine yM ?_|refine yN ?_|refine yO ?_|refine yP (fun hg=>?_) fun hg=>?_|refine yQ ?_|refine yR ?_|refine yS (fun hg=>?_) fun hg=>?_|refine yT ?_|refine yU ?_|refine yV (fun hg=>?_) fun hg=>?_|refine yW ?_|refine yX ?_|refine yY (fun hg=>?_) fun hg=>?_))
    | ((with_reducible refine idO ?_); (with_reducible refine oM_gen fun Kv hK=>?_); simp [go_sem, hk.cells]; (try simp (disch := omega) only [wrapI64, wrapU8, wrapU32, wrapU64]); (first|refine hK _ _ ?_|refine And.intro (by omega) (hK _ _ ?_)); clear hK; clear Kv)))
    exact store_desk zstp none 0 0 hk (fun W3 hk hc => ⟨_, by simp [go_sem, hc], k0 _ (gapsM_no (.inr (.inl ha))) hk.below⟩)
  | true =>
    repeat (any_goals (first
    | (with_reducible first|refine pureM_in ?_|((refine idGd ?_); first|refine zA ?_|refine zB ?_|refine zC ?_|refine zD ?_|refine zE ?_|((refine idGdD ?_); first|refine zF ?_|refine zG ?_|refine zH (fun hg=>?_) fun hg=>?_|refine zI ?_|refine zJ ?_|refine zK (fun hg=>?_) fun hg=>?_)|((refine idGdN ?_); first|refine zL ?_|refine zM ?_|refine zN (fun hg=>?_) fun hg=>?_|refine zO ?_|refine zP ?_|refine zQ (fun hg=>?_) fun hg=>?_)|refine zR ?_|refine zS ?_|refine zT ?_|refine zU ?_|refine zV ?_|refine zW ?_|refine zX (fun hg=>?_) fun hg=>?_|refine zY ?_|refine zZ ?_|refine yA (fun hg=>?_) fun hg=>?_)|((refine idPick ?_); first|refine yB ?_|refine yC ?_|refine yD ?_|refine yE ?_|refine yF ?_|refine yG ?_|refine yH ?_|refine yI ?_|refine yJ ?_|refine yK ?_)|((refine idCond ?_); first|refine yL ?_|refine yM ?_|refine yN ?_|refine yO ?_|refine yP (fun hg=>?_) fun hg=>?_|refine yQ ?_|refine yR ?_|refine yS (fun hg=>?_) fun hg=>?_|refine yT ?_|refine yU ?_|refine yV (fun hg=>?_) fun hg=>?_|refine yW ?_|refine yX ?_|refine yY (fun hg=>?_) fun hg=>?_))
    | ((with_reducible refine idO ?_); (with_reducible refine oM_gen fun Kv hK=>?_); simp [go_sem, hk.cells]; (try simp (disch := omega) only [wrapI64, wrapU8, wrapU32, wrapU64]); (first|refine hK _ _ ?_|refine And.intro (by omega) (hK _ _ ?_)); clear hK; clear Kv)))
    refine Accepts_ok s t y ht (hs.next hk.below) (hy0.next hk.below) (fun w3 h3 => ?_)
    have hk := hk.next h3
    cases hb : acceptsM s t y with
    | false =>
      repeat (any_goals (first
      | (with_reducible first|refine pureM_in ?_|((refine idGd ?_); first|refine zA ?_|refine zB ?_|refine zC ?_|refine zD ?_|refine zE ?_|((refine idGdD ?_); first|refine zF ?_|refine zG ?_|refine zH (fun hg=>?_) fun hg=>?_|refine zI ?_|refine zJ ?_|refine zK (fun hg=>?_) fun hg=>?_)|((refine idGdN ?_); first|refine zL ?_|refine zM ?_|refine zN (fun hg=>?_) fun hg=>?_|refine zO ?_|refine zP ?_|refine zQ (fun hg=>?_) fun hg=>?_)|refine zR ?_|refine zS ?_|refine zT ?_|refine zU ?_|refine zV ?_|refine zW ?_|refine zX (fun hg=>?_) fun hg=>?_|refine zY ?_|refine zZ ?_|refine yA (fun hg=>?_) fun hg=>?_)|((refine idPick ?_); first|refine yB ?_|refine yC ?_|refine yD ?_|refine yE ?_|refine yF ?_|refine yG ?_|refine yH ?_|refine yI ?_|refine yJ ?_|refine yK ?_)|((refine idCond ?_); first|refine yL ?_|refine yM ?_|refine yN ?_|refine yO ?_|refine yP (fun hg=>?_) fun hg=>?_|refine yQ ?_|refine yR ?_|refine yS (fun hg=>?_) fun hg=>?_|refine yT ?_|refine yU ?_|refine yV (fun hg=>?_) fun hg=>?_|refine yW ?_|refine yX ?_|refine yY (fun hg=>?_) fun hg=>?_))
      | ((with_reducible refine idO ?_); (with_reducible refine oM_gen fun Kv hK=>?_); simp [go_sem, hk.cells]; (try simp (disch := omega) only [wrapI64, wrapU8, wrapU32, wrapU64]); (first|refine hK _ _ ?_|refine And.intro (by omega) (hK _ _ ?_)); clear hK; clear Kv)))
      exact store_desk zstp none 0 0 hk (fun W3 hk hc => ⟨_, by simp [go_sem, hc], k0 _ (gapsM_no (.inr (.inr hb))) hk.below⟩)
    | true =>
      have e0 := gapsM_yes hd ha hb
      obtain ⟨l1, hv⟩ := accepts_len ha
      obtain ⟨l2, _⟩ := accepts_len hb
      have hv7 := validS_len hv
      have hgl := gapL_len (s := s) l1 l2
      have hat := fun i h1 h2 h3 => gapL_at (s := s) (a := x) (b := y) (i := i) h1 h2 h3
      have hrng := gapL_rng (s := s) (a := x) (b := y)
      generalize gapL s x y = gl at *
      repeat (any_goals (first
      | ((with_reducible refine local_desk s ad s.bases.length c hk ?_); intro b7 W7 hk hb7 hg7)
      | (with_reducible first|refine pureM_in ?_|((refine idGd ?_); first|refine zA ?_|refine zB ?_|refine zC ?_|refine zD ?_|refine zE ?_|((refine idGdD ?_); first|refine zF ?_|refine zG ?_|refine zH (fun hg=>?_) fun hg=>?_|refine zI ?_|refine zJ ?_|refine zK (fun hg=>?_) fun hg=>?_)|((refine idGdN ?_); first|refine zL ?_|refine zM ?_|refine zN (fun hg=>?_) fun hg=>?_|refine zO ?_|refine zP ?_|refine zQ (fun hg=>?_) fun hg=>?_)|refine zR ?_|refine zS ?_|refine zT ?_|refine zU ?_|refine zV ?_|refine zW ?_|refine zX (fun hg=>?_) fun hg=>?_|refine zY ?_|refine zZ ?_|refine yA (fun hg=>?_) fun hg=>?_)|((refine idPick ?_); first|refine yB ?_|refine yC ?_|refine yD ?_|refine yE ?_|refine yF ?_|refine yG ?_|refine yH ?_|refine yI ?_|refine yJ ?_|refine yK ?_)|((refine idCond ?_); first|refine yL ?_|refine yM ?_|refine yN ?_|refine yO ?_|refine yP (fun hg=>?_) fun hg=>?_|refine yQ ?_|refine yR ?_|refine yS (fun hg=>?_) fun hg=>?_|refine yT ?_|refine yU ?_|refine yV (fun hg=>?_) fun hg=>?_|refine yW ?_|refine yX ?_|refine yY (fun hg=>?_) fun hg=>?_))
      | ((with_reducible refine idO ?_); (with_reducible refine oM_gen fun Kv hK=>?_); simp [go_sem, hk.cells]; (try simp (disch := omega) only [wrapI64, wrapU8, wrapU32, wrapU64]); (first|refine hK _ _ ?_|refine And.intro (by omega) (hK _ _ ?_)); clear hK; clear Kv)))
      have hgW : g < W7.heap.size := mine_lt hk.mine
      have hk0 := hk
      refine ⟨GpJ gl W7, pdMu x.answers.length, ⟨Below.refl _ _, _, _, _, 0, rfl, by omega, World.ownsRow_nil _ _ _ _⟩, ?_⟩
      rintro _ _ w5 ⟨h5, u1, u2, o, i, rfl, hi, ho⟩
      have hk := hk.next h5
      by_cases hin : i = x.answers.length
      · rw [List.take_of_length_le (by omega)] at ho
        have hints := ho.ints hrng (by omega)
        obtain ⟨g', cap, cur, rfl, hlt, hB, _, _, hcp, hcell⟩ := owns_cells ho (by omega)
        obtain ⟨x0, hx0⟩ : ∃ x0, gl.headD 0 = x0 := ⟨_, rfl⟩
        rw [hx0] at e0
        have c8 : w5.cell? ⟨g', 0, none⟩ = some (.int .i64 x0) := hcell 0 _ (by
          rw [flat_int, ← hx0]
          cases hgl2 : gl with
          | nil => rw [hgl2] at hgl; simp at hgl; omega
          | cons a l => rfl)
        have hk := hk.add1 c8 (by omega)
        have hgl8 : 0 < gl.length := by omega
        repeat (any_goals (first
        | (with_reducible first|refine pureM_in ?_|((refine idGd ?_); first|refine zA ?_|refine zB ?_|refine zC ?_|refine zD ?_|refine zE ?_|((refine idGdD ?_); first|refine zF ?_|refine zG ?_|refine zH (fun hg=>?_) fun hg=>?_|refine zI ?_|refine zJ ?_|refine zK (fun hg=>?_) fun hg=>?_)|((refine idGdN ?_); first|refine zL ?_|refine zM ?_|refine zN (fun hg=>?_) fun hg=>?_|refine zO ?_|refine zP ?_|refine zQ (fun hg=>?_) fun hg=>?_)|refine zR ?_|refine zS ?_|refine zT ?_|refine zU ?_|refine zV ?_|refine zW ?_|refine zX (fun hg=>?_) fun hg=>?_|refine zY ?_|refine zZ ?_|refine yA (fun hg=>?_) fun hg=>?_)|((refine idPick ?_); first|refine yB ?_|refine yC ?_|refine yD ?_|refine yE ?_|refine yF ?_|refine yG ?_|refine yH ?_|refine yI ?_|refine yJ ?_|refine yK ?_)|((refine idCond ?_); first|refine yL ?_|refine yM ?_|refine yN ?_|refine yO ?_|refine yP (fun hg=>?_) fun hg=>?_|refine yQ ?_|refine yR ?_|refine yS (fun hg=>?_) fun hg=>?_|refine yT ?_|refine yU ?_|refine yV (fun hg=>?_) fun hg=>?_|refine yW ?_|refine yX ?_|refine yY (fun hg=>?_) fun hg=>?_))
        | ((with_reducible refine idO ?_); (with_reducible refine oM_gen fun Kv hK=>?_); simp [go_sem]; (try simp (disch := omega) only [wrapI64, wrapU8, wrapU32, wrapU64]); (first|refine hK _ _ ?_|refine And.intro (by omega) (hK _ _ ?_)); clear hK; clear Kv)))
        refine ⟨KnM w _ g 5, hk.drew, ?_⟩
        have hints := hints.next .drawn
        have hk := hk.drew
        repeat (any_goals (first
        | (with_reducible refine And.intro hk ?_)
        | (with_reducible first|refine pureM_in ?_|refine pureQ_in ?_|refine pureH_in ?_|((refine idGdQ ?_); refine gdQ_conv fun _=>?_)|((refine idGdH ?_); refine gdH_conv fun _=>?_)|refine And.intro (Eq.refl (α := World) _) ?_|refine forall_one ?_|((refine idGd ?_); first|refine zA ?_|refine zB ?_|refine zC ?_|refine zD ?_|refine zE ?_|((refine idGdD ?_); first|refine zF ?_|refine zG ?_|refine zH (fun hg=>?_) fun hg=>?_|refine zI ?_|refine zJ ?_|refine zK (fun hg=>?_) fun hg=>?_)|((refine idGdN ?_); first|refine zL ?_|refine zM ?_|refine zN (fun hg=>?_) fun hg=>?_|refine zO ?_|refine zP ?_|refine zQ (fun hg=>?_) fun hg=>?_)|refine zR ?_|refine zS ?_|refine zT ?_|refine zU ?_|refine zV ?_|refine zW ?_|refine zX (fun hg=>?_) fun hg=>?_|refine zY ?_|refine zZ ?_|refine yA (fun hg=>?_) fun hg=>?_)|((refine idPick ?_); first|refine yB ?_|refine yC ?_|refine yD ?_|refine yE ?_|refine yF ?_|refine yG ?_|refine yH ?_|refine yI ?_|refine yJ ?_|refine yK ?_)|((refine idCond ?_); first|refine yL ?_|refine yM ?_|refine yN ?_|refine yO ?_|refine yP (fun hg=>?_) fun hg=>?_|refine yQ ?_|refine yR ?_|refine yS (fun hg=>?_) fun hg=>?_|refine yT ?_|refine yU ?_|refine yV (fun hg=>?_) fun hg=>?_|refine yW ?_|refine yX ?_|refine yY (fun hg=>?_) fun hg=>?_))
        | ((with_reducible refine idOQ ?_); first|(with_reducible first|refine wA ?_|refine wB ?_|refine wC ?_|refine wD ?_|refine wE ?_|refine wF ?_|refine oQ_nil ?_)|((with_reducible refine oQ_one ?_ ?_); exact ⟨_, rfl⟩)|(with_reducible refine oQ_of ⟨_, rfl⟩ (fun W0 hW0 => by (refine oM_gen (fun Kv hK => ?_)); simp [go_sem, hW0.cells]; (first | exact hK _ _ ⟨rfl, rfl⟩ | exact ⟨by omega, hK _ _ ⟨rfl, rfl⟩⟩)) ?_))
        | ((with_reducible refine idOH ?_); first|(with_reducible first|refine vA ?_|refine vB ?_|refine vC ?_|refine vD ?_|refine vE ?_|refine vF ?_|refine oH_nil ?_)|(with_reducible refine oH_of ⟨_, rfl⟩ (fun W0 hW0 => by (refine oM_gen (fun Kv hK => ?_)); simp [go_sem, hW0.cells]; (first | exact hK _ _ ⟨rfl, rfl⟩ | exact ⟨by omega, hK _ _ ⟨rfl, rfl⟩⟩)) ?_))
        | ((with_reducible refine idO ?_); (with_reducible refine oM_gen fun Kv hK=>?_); simp [go_sem]; (try simp (disch := omega) only [wrapI64, wrapU8, wrapU32, wrapU64]); (first|refine hK _ _ ?_|refine And.intro (by omega) (hK _ _ ?_)); clear hK; clear Kv)))
        refine store_desk2 s ad _ c hk (fun W3 hk hc hgr => ⟨hk, hk, hk, _, by simp [go_sem, hc], k2 _ _ _ _ e0 hk.below ⟨hints.row.keep hgr.size (fun i hi hlt => hgr.block i hlt ?_), hrng, by omega⟩ ⟨_, _, _, rfl, hcp⟩⟩)
        cases hi
        intro e
        have e2 : g' = g := Option.some.inj e
        omega
      · obtain ⟨b1, o1, rfl, hb1, ca, ra, _⟩ := hxa.at (i := i) (by omega)
        obtain ⟨b2, o2, rfl, hb2, cb, rb, _⟩ := hya.at (i := i) (by omega)
        repeat (any_goals (first
        | (with_reducible first|refine pureM_in ?_|((refine idGd ?_); first|refine zA ?_|refine zB ?_|refine zC ?_|refine zD ?_|refine zE ?_|((refine idGdD ?_); first|refine zF ?_|refine zG ?_|refine zH (fun hg=>?_) fun hg=>?_|refine zI ?_|refine zJ ?_|refine zK (fun hg=>?_) fun hg=>?_)|((refine idGdN ?_); first|refine zL ?_|refine zM ?_|refine zN (fun hg=>?_) fun hg=>?_|refine zO ?_|refine zP ?_|refine zQ (fun hg=>?_) fun hg=>?_)|refine zR ?_|refine zS ?_|refine zT ?_|refine zU ?_|refine zV ?_|refine zW ?_|refine zX (fun hg=>?_) fun hg=>?_|refine zY ?_|refine zZ ?_|refine yA (fun hg=>?_) fun hg=>?_)|((refine idPick ?_); first|refine yB ?_|refine yC ?_|refine yD ?_|refine yE ?_|refine yF ?_|refine yG ?_|refine yH ?_|refine yI ?_|refine yJ ?_|refine yK ?_)|((refine idCond ?_); first|refine yL ?_|refine yM ?_|refine yN ?_|refine yO ?_|refine yP (fun hg=>?_) fun hg=>?_|refine yQ ?_|refine yR ?_|refine yS (fun hg=>?_) fun hg=>?_|refine yT ?_|refine yU ?_|refine yV (fun hg=>?_) fun hg=>?_|refine yW ?_|refine yX ?_|refine yY (fun hg=>?_) fun hg=>?_))
        | ((with_reducible refine idO ?_); (with_reducible refine oM_gen fun Kv hK=>?_); simp [go_sem, ca _ hk.below, hk.cells]; (try simp (disch := omega) only [wrapI64, wrapU8, wrapU32, wrapU64]); (first|refine hK _ _ ?_|refine And.intro (by omega) (hK _ _ ?_)); clear hK; clear Kv)))
        refine ⟨KnM w _ g 5, hk.drew, ?_⟩
        have h5 := h5.trans (Below.drawn (w := w5))
        have ho := ho.keep (Below.drawn (w := w5))
        have hk := hk.drew
        repeat (any_goals (first
        | (with_reducible refine And.intro hk ?_)
        | (with_reducible first|refine pureM_in ?_|refine pureQ_in ?_|refine pureH_in ?_|((refine idGdQ ?_); refine gdQ_conv fun _=>?_)|((refine idGdH ?_); refine gdH_conv fun _=>?_)|refine And.intro (Eq.refl (α := World) _) ?_|refine forall_one ?_|((refine idGd ?_); first|refine zA ?_|refine zB ?_|refine zC ?_|refine zD ?_|refine zE ?_|((refine idGdD ?_); first|refine zF ?_|refine zG ?_|refine zH (fun hg=>?_) fun hg=>?_|refine zI ?_|refine zJ ?_|refine zK (fun hg=>?_) fun hg=>?_)|((refine idGdN ?_); first|refine zL ?_|refine zM ?_|refine zN (fun hg=>?_) fun hg=>?_|refine zO ?_|refine zP ?_|refine zQ (fun hg=>?_) fun hg=>?_)|refine zR ?_|refine zS ?_|refine zT ?_|refine zU ?_|refine zV ?_|refine zW ?_|refine zX (fun hg=>?_) fun hg=>?_|refine zY ?_|refine zZ ?_|refine yA (fun hg=>?_) fun hg=>?_)|((refine idPick ?_); first|refine yB ?_|refine yC ?_|refine yD ?_|refine yE ?_|refine yF ?_|refine yG ?_|refine yH ?_|refine yI ?_|refine yJ ?_|refine yK ?_)|((refine idCond ?_); first|refine yL ?_|refine yM ?_|refine yN ?_|refine yO ?_|refine yP (fun hg=>?_) fun hg=>?_|refine yQ ?_|refine yR ?_|refine yS (fun hg=>?_) fun hg=>?_|refine yT ?_|refine yU ?_|refine yV (fun hg=>?_) fun hg=>?_|refine yW ?_|refine yX ?_|refine yY (fun hg=>?_) fun hg=>?_))
        | ((with_reducible refine idOQ ?_); first|(with_reducible first|refine wA ?_|refine wB ?_|refine wC ?_|refine wD ?_|refine wE ?_|refine wF ?_|refine oQ_nil ?_)|((with_reducible refine oQ_one ?_ ?_); exact ⟨_, rfl⟩)|(with_reducible refine oQ_of ⟨_, rfl⟩ (fun W0 hW0 => by (refine oM_gen (fun Kv hK => ?_)); simp [go_sem, hW0.cells, cb _ hW0.below]; (first | exact hK _ _ ⟨rfl, rfl⟩ | exact ⟨by omega, hK _ _ ⟨rfl, rfl⟩⟩)) ?_))
        | ((with_reducible refine idOH ?_); first|(with_reducible first|refine vA ?_|refine vB ?_|refine vC ?_|refine vD ?_|refine vE ?_|refine vF ?_|refine oH_nil ?_)|(with_reducible refine oH_of ⟨_, rfl⟩ (fun W0 hW0 => by (refine oM_gen (fun Kv hK => ?_)); simp [go_sem, hW0.cells, cb _ hW0.below]; (first | exact hK _ _ ⟨rfl, rfl⟩ | exact ⟨by omega, hK _ _ ⟨rfl, rfl⟩⟩)) ?_))
        | ((with_reducible refine idO ?_); (with_reducible refine oM_gen fun Kv hK=>?_); simp [go_sem]; (try simp (disch := omega) only [wrapI64, wrapU8, wrapU32, wrapU64]); (first|refine hK _ _ ?_|refine And.intro (by omega) (hK _ _ ?_)); clear hK; clear Kv)))
        refine less_ok s _ _ (hs.next hk.below) (fun w6 h6 => ?_)
        have hk := hk.next h6
        have ho := ho.keep h6
        have h5 := h5.on h6
        refine ⟨hk, mk1 _ (subM_I64 _ _ _) (fun v7 w7 h7 hi7 => ?_)⟩
        have hk := hk.next h7
        have ho := ho.keep h7
        have h5 := h5.on h7
        refine ⟨hk, append1 ho h5.size hi7 (by simp; omega) (fun v8 w8 ho8 h8 => ?_)⟩
        have h5 := h5.trans h8
        have hk := hk0.next h5
        refine ⟨hk, ?_⟩
        repeat (any_goals (first
        | (with_reducible refine And.intro hk ?_)
        | (with_reducible first|refine pureM_in ?_|refine pureQ_in ?_|refine pureH_in ?_|((refine idGdQ ?_); refine gdQ_conv fun _=>?_)|((refine idGdH ?_); refine gdH_conv fun _=>?_)|refine And.intro (Eq.refl (α := World) _) ?_|refine forall_one ?_|((refine idGd ?_); first|refine zA ?_|refine zB ?_|refine zC ?_|refine zD ?_|refine zE ?_|((refine idGdD ?_); first|refine zF ?_|refine zG ?_|refine zH (fun hg=>?_) fun hg=>?_|refine zI ?_|refine zJ ?_|refine zK (fun hg=>?_) fun hg=>?_)|((refine idGdN ?_); first|refine zL ?_|refine zM ?_|refine zN (fun hg=>?_) fun hg=>?_|refine zO ?_|refine zP ?_|refine zQ (fun hg=>?_) fun hg=>?_)|refine zR ?_|refine zS ?_|refine zT ?_|refine zU ?_|refine zV ?_|refine zW ?_|refine zX (fun hg=>?_) fun hg=>?_|refine zY ?_|refine zZ ?_|refine yA (fun hg=>?_) fun hg=>?_)|((refine idPick ?_); first|refine yB ?_|refine yC ?_|refine yD ?_|refine yE ?_|refine yF ?_|refine yG ?_|refine yH ?_|refine yI ?_|refine yJ ?_|refine yK ?_)|((refine idCond ?_); first|refine yL ?_|refine yM ?_|refine yN ?_|refine yO ?_|refine yP (fun hg=>?_) fun hg=>?_|refine yQ ?_|refine yR ?_|refine yS (fun hg=>?_) fun hg=>?_|refine yT ?_|refine yU ?_|refine yV (fun hg=>?_) fun hg=>?_|refine yW ?_|refine yX ?_|refine yY (fun hg=>?_) fun hg=>?_))
        | ((with_reducible refine idOQ ?_); first|(with_reducible first|refine wA ?_|refine wB ?_|refine wC ?_|refine wD ?_|refine wE ?_|refine wF ?_|refine oQ_nil ?_)|((with_reducible refine oQ_one ?_ ?_); exact ⟨_, rfl⟩)|(with_reducible refine oQ_of ⟨_, rfl⟩ (fun W0 hW0 => by (refine oM_gen (fun Kv hK => ?_)); simp [go_sem]; (first | exact hK _ _ ⟨rfl, rfl⟩ | exact ⟨by omega, hK _ _ ⟨rfl, rfl⟩⟩)) ?_))
        | ((with_reducible refine idOH ?_); first|(with_reducible first|refine vA ?_|refine vB ?_|refine vC ?_|refine vD ?_|refine vE ?_|refine vF ?_|refine oH_nil ?_)|(with_reducible refine oH_of ⟨_, rfl⟩ (fun W0 hW0 => by (refine oM_gen (fun Kv hK => ?_)); simp [go_sem]; (first | exact hK _ _ ⟨rfl, rfl⟩ | exact ⟨by omega, hK _ _ ⟨rfl, rfl⟩⟩)) ?_))
        | ((with_reducible refine idO ?_); (with_reducible refine oM_gen fun Kv hK=>?_); simp [go_sem]; (try simp (disch := omega) only [wrapI64, wrapU8, wrapU32, wrapU64]); (first|refine hK _ _ ?_|refine And.intro (by omega) (hK _ _ ?_)); clear hK; clear Kv)))
        refine ⟨⟨h5, _, _, _, i + 1, rfl, by omega, ?_⟩, ?_⟩
        · rw [List.take_succ_eq_append_getElem (by omega), hat i (by omega) (by omega) (by omega)]
          exact ho8
        · simp only [pdMu_eq]; omega
end
end Go.Proofs
--G
namespace Go.Proofs
open Go Go.Sh Go.RowKit FdSpec TkSpec
set_option linter.unusedSimpArgs false
set_option linter.unusedVariables false
set_option maxRecDepth 10000
section
variable {K : Value → World → Prop} {w w0 : World} {L : List (Addr × Value)}
theorem _root_.Go.Sh.Ints.tail {b o n c : Nat} {l : List Int} (h : Ints w (.slice (some ⟨b, o, none⟩) n c) l) (hne : 0 < l.length) : Ints w (.slice (some ⟨b, o + 1, none⟩) (n - 1) (c - 1)) l.tail := by
  obtain ⟨⟨ad, c', hv, h0, hc⟩, hr, hl⟩ := h
  cases hv
  refine ⟨⟨some ⟨b, o + 1, none⟩, c - 1, by rw [List.length_tail], by simp, ?_⟩, fun n hn => hr n (List.mem_of_mem_tail hn), by rw [List.length_tail]; omega⟩
  rcases hc with rfl | ⟨b', o', hbo, hlt, hcell⟩
  · simp at hne
  · cases hbo
    refine .inr ⟨b, o + 1, rfl, hlt, fun k x hk => ?_⟩
    have := hcell (k + 1) x (by
      rw [flat_int] at hk ⊢
      rw [← hk]
      simp)
    rw [show o + 1 + k = o + (k + 1) by omega]
    exact this
theorem traceM_no {s : Stp} {t : Tkt} {a b : Spd} (h : (gapsM s t a b).2 = false) : traceM s t a b = ([], false) := by
  unfold traceM; rw [if_neg (by simp [h])]
theorem gapsM_len {s : Stp} {t : Tkt} {a b : Spd} (h : (gapsM s t a b).2 = true) : (gapsM s t a b).1.length = s.bases.length ∧ validS s = true := by
  by_cases h1 : a.dare = b.dare
  · rw [gapsM_no (.inl h1)] at h; cases h
  cases h2 : acceptsM s t a with
  | false => rw [gapsM_no (.inr (.inl h2))] at h; cases h
  | true =>
    cases h3 : acceptsM s t b with
    | false => rw [gapsM_no (.inr (.inr h3))] at h; cases h
    | true =>
      rw [gapsM_yes h1 h2 h3]
      obtain ⟨l1, hv⟩ := accepts_len h2
      obtain ⟨l2, _⟩ := accepts_len h3
      exact ⟨gapL_len l1 l2, hv⟩
def TrJ (n : Nat) (tl : List Int) (Wl : World) (vs : List Value) (w' : World) : Prop := Below Wl.heap.size Wl w' ∧ ∃ (v o : Value) (i : Nat), vs = [v, o, .int .i64 (i : Int)] ∧ i ≤ n ∧ OwnI w' Wl.heap.size o (tl.take i)
theorem Trace_ok (s : Stp) (t : Tkt) (x y : Spd) {v xv yv : Value} (ht : TktR t) (hs : SetR w s v) (hx : SpdR w x xv) (hy : SpdR w y yv)
    (k : ∀ w' ov, Below w.heap.size w w' → Ints w' ov (traceM s t x y).1 → K (.tuple #[ov, .bool (traceM s t x y).2]) w') : callM Tryz.prog 48 #[stpV s v, tktV t, spdV x xv, spdV y yv] K w := by
  apply sh_48_ok
  unfold sh_48
  obtain ⟨ad, c, rfl⟩ := hs.ints.isSlice
  have hx0 := hx
  have hy0 := hy
  obtain ⟨xad, xc, rfl⟩ := hx.answers.isSlice
  obtain ⟨yad, yc, rfl⟩ := hy.answers.isSlice
  have k2 : ∀ w' ov r, traceM s t x y = r → Below w.heap.size w w' → Ints w' ov r.1 → K (.tuple #[ov, .bool r.2]) w' := fun w' ov r e hb hi => by
    rw [← e] at hi ⊢
    exact k w' ov hb hi
  clear k
  refine box_kn (cs := stpC s (.slice ad s.bases.length c)) rfl (.start w) fun b1 W hk hb1 hbb => ?_
  refine box_kn (cs := tktC t) rfl hk fun b2 W2 hk hb2 hbb => ?_
  refine box_kn (cs := spdC x (.slice xad x.answers.length xc)) rfl hk fun b3 W3 hk hb3 hbb => ?_
  refine box_kn (cs := spdC y (.slice yad y.answers.length yc)) rfl hk fun b4 W4 hk hb4 hbb => ?_
  clear hb1 hb2 hb3 hb4
  repeat (any_goals (first
  | (with_reducible first|refine pureM_in ?_|((refine idGd ?_); first|refine zA ?_|refine zB ?_|refine zC ?_|refine zD ?_|refine zE ?_|((refine idGdD ?_); first|refine zF ?_|refine zG ?_|refine zH (fun hg=>?_) fun hg=>?_|refine zI ?_|refine zJ ?_|refine zK (fun hg=>?_) fun hg=>?_)|((refine idGdN ?_); first|refine zL ?_|refine zM ?_|refine zN (fun hg=>?_) fun hg=>?_|refine zO ?_|refine zP ?_|refine zQ (fun hg=>?_) fun hg=>?_)|refine zR ?_|refine zS ?_|refine zT ?_|refine zU ?_|refine zV ?_|refine zW ?_|refine zX (fun hg=>?_) fun hg=>?_|refine zY ?_|refine zZ ?_|refine yA (fun hg=>?_) fun hg=>?_)|((refine idPick ?_); first|refine yB ?_|refine yC ?_|refine yD ?_|refine yE ?_|refine yF ?_|refine yG ?_|refine yH ?_|refine yI ?_|refine yJ ?_|refine yK ?_)|((refine idCond ?_); first|refine yL ?_|refine yM ?_|refine yN ?_|refine yO ?_|refine yP (fun hg=>?_) fun hg=>?_|refine yQ ?_|refine yR ?_|refine yS (fun hg=>?_) fun hg=>?_|refine yT ?_|refine yU ?_|refine yV (fun hg=>?_) fun hg=>?_|refine yW ?_|refine yX ?_|refine yY (fun hg=>?_) fun hg=>?_))
  | ((with_reducible refine idO ?_); (with_reducible refine oM_gen fun Kv hK=>?_); simp [go_sem, hk.cells]; (try simp (disch := omega) only [wrapI64, wrapU8, wrapU32, wrapU64]); (first|refine hK _ _ ?_|refine And.intro (by omega) (hK _ _ ?_)); clear hK; clear Kv)))
  refine gaps_ok s t x y ht (hs.next hk.below) (hx0.next hk.below) (hy0.next hk.below) (fun w2 s' ad' n' c' ov h2 hgi hcap hds => ?_)
  have hk := hk.next h2
  have hT := traceM_no (s := s) (t := t) (a := x) (b := y)
  have hG := gapsM_len (s := s) (t := t) (a := x) (b := y)
  have eT : (gapsM s t x y).2 = true → traceM s t x y = ((gapsM s t x y).1.tail.map fun n => overQ s n ((gapsM s t x y).1.headD 0), true) := fun h => by unfold traceM; rw [if_pos h]
  obtain ⟨⟨gl, u⟩, hg⟩ : ∃ p, gapsM s t x y = p := ⟨_, rfl⟩
  rw [hg] at hT hG eT hgi hds ⊢
  simp only at hT hG eT hgi hds ⊢
  cases u with
  | false =>
    repeat (any_goals (first
    | ((with_reducible refine local_desk' s' ad' n' c' hk ?_); intro b7 W7 hk hb7 hg7)
    | (with_reducible first|refine pureM_in ?_|((refine idGd ?_); first|refine zA ?_|refine zB ?_|refine zC ?_|refine zD ?_|refine zE ?_|((refine idGdD ?_); first|refine zF ?_|refine zG ?_|refine zH (fun hg=>?_) fun hg=>?_|refine zI ?_|refine zJ ?_|refine zK (fun hg=>?_) fun hg=>?_)|((refine idGdN ?_); first|refine zL ?_|refine zM ?_|refine zN (fun hg=>?_) fun hg=>?_|refine zO ?_|refine zP ?_|refine zQ (fun hg=>?_) fun hg=>?_)|refine zR ?_|refine zS ?_|refine zT ?_|refine zU ?_|refine zV ?_|refine zW ?_|refine zX (fun hg=>?_) fun hg=>?_|refine zY ?_|refine zZ ?_|refine yA (fun hg=>?_) fun hg=>?_)|((refine idPick ?_); first|refine yB ?_|refine yC ?_|refine yD ?_|refine yE ?_|refine yF ?_|refine yG ?_|refine yH ?_|refine yI ?_|refine yJ ?_|refine yK ?_)|((refine idCond ?_); first|refine yL ?_|refine yM ?_|refine yN ?_|refine yO ?_|refine yP (fun hg=>?_) fun hg=>?_|refine yQ ?_|refine yR ?_|refine yS (fun hg=>?_) fun hg=>?_|refine yT ?_|refine yU ?_|refine yV (fun hg=>?_) fun hg=>?_|refine yW ?_|refine yX ?_|refine yY (fun hg=>?_) fun hg=>?_))
    | ((with_reducible refine idO ?_); (with_reducible refine oM_gen fun Kv hK=>?_); simp [go_sem, hk.cells]; (try simp (disch := omega) only [wrapI64, wrapU8, wrapU32, wrapU64]); (first|refine hK _ _ ?_|refine And.intro (by omega) (hK _ _ ?_)); clear hK; clear Kv)))
    exact k2 _ _ _ (hT rfl) hk.below (Ints.nil _)
  | true =>
    have hds := hds rfl
    obtain ⟨hG, hv⟩ := hG rfl
    have hv7 := validS_len hv
    have eT2 := eT rfl
    clear eT
    rw [hds]
    obtain ⟨oad, n0, oc, rfl, hcp⟩ := hcap
    obtain ⟨ob, oo, rfl, c8, r8⟩ := hgi.headD (by omega)
    obtain ⟨oad2, oc2, hoe⟩ := hgi.isSlice
    cases hoe
    obtain ⟨x0, hx0⟩ : ∃ x0, gl.headD 0 = x0 := ⟨_, rfl⟩
    rw [hx0] at c8 r8 eT2
    repeat (any_goals (first
    | ((with_reducible refine local_desk' s ad s.bases.length c hk ?_); intro b7 W7 hk hb7 hg7)
    | (with_reducible first|refine pureM_in ?_|((refine idGd ?_); first|refine zA ?_|refine zB ?_|refine zC ?_|refine zD ?_|refine zE ?_|((refine idGdD ?_); first|refine zF ?_|refine zG ?_|refine zH (fun hg=>?_) fun hg=>?_|refine zI ?_|refine zJ ?_|refine zK (fun hg=>?_) fun hg=>?_)|((refine idGdN ?_); first|refine zL ?_|refine zM ?_|refine zN (fun hg=>?_) fun hg=>?_|refine zO ?_|refine zP ?_|refine zQ (fun hg=>?_) fun hg=>?_)|refine zR ?_|refine zS ?_|refine zT ?_|refine zU ?_|refine zV ?_|refine zW ?_|refine zX (fun hg=>?_) fun hg=>?_|refine zY ?_|refine zZ ?_|refine yA (fun hg=>?_) fun hg=>?_)|((refine idPick ?_); first|refine yB ?_|refine yC ?_|refine yD ?_|refine yE ?_|refine yF ?_|refine yG ?_|refine yH ?_|refine yI ?_|refine yJ ?_|refine yK ?_)|((refine idCond ?_); first|refine yL ?_|refine yM ?_|refine yN ?_|refine yO ?_|refine yP (fun hg=>?_) fun hg=>?_|refine yQ ?_|refine yR ?_|refine yS (fun hg=>?_) fun hg=>?_|refine yT ?_|refine yU ?_|refine yV (fun hg=>?_) fun hg=>?_|refine yW ?_|refine yX ?_|refine yY (fun hg=>?_) fun hg=>?_))
    | ((with_reducible refine idO ?_); (with_reducible refine oM_gen fun Kv hK=>?_); simp [go_sem, hk.cells]; (try simp (disch := omega) only [wrapI64, wrapU8, wrapU32, wrapU64]); (first|refine hK _ _ ?_|refine And.intro (by omega) (hK _ _ ?_)); clear hK; clear Kv)))
    refine sliceFrom_at (by kernel_rfl) (sz := 1) (fun w => by kernel_rfl) 1 (by omega) (by omega) ?_
    have hti := (hgi.tail (by omega)).next hb7
    have c8 := fun w' hb => c8 w' (hb7.on hb)
    have htl : gl.tail.length = gl.length - 1 := List.length_tail
    have hat : ∀ (i : Nat) (y : Int), gl.tail[i]? = some y → (gl.tail.map fun n => overQ s n x0)[i]? = some (overQ s y x0) := fun i y h => by rw [List.getElem?_map, h]; rfl
    have hml : (gl.tail.map fun n => overQ s n x0).length = gl.tail.length := by simp
    have hrng : ∀ n ∈ (gl.tail.map fun n => overQ s n x0), I64 n := by
      intro n hn
      obtain ⟨m, _, rfl⟩ := List.mem_map.1 hn
      exact mulQ_I64 _ _ _ (by simp)
    generalize (gl.tail.map fun n => overQ s n x0) = tl at *
    generalize gl.tail = gt at *
    repeat (any_goals (first
    | (with_reducible first|refine pureM_in ?_|((refine idGd ?_); first|refine zA ?_|refine zB ?_|refine zC ?_|refine zD ?_|refine zE ?_|((refine idGdD ?_); first|refine zF ?_|refine zG ?_|refine zH (fun hg=>?_) fun hg=>?_|refine zI ?_|refine zJ ?_|refine zK (fun hg=>?_) fun hg=>?_)|((refine idGdN ?_); first|refine zL ?_|refine zM ?_|refine zN (fun hg=>?_) fun hg=>?_|refine zO ?_|refine zP ?_|refine zQ (fun hg=>?_) fun hg=>?_)|refine zR ?_|refine zS ?_|refine zT ?_|refine zU ?_|refine zV ?_|refine zW ?_|refine zX (fun hg=>?_) fun hg=>?_|refine zY ?_|refine zZ ?_|refine yA (fun hg=>?_) fun hg=>?_)|((refine idPick ?_); first|refine yB ?_|refine yC ?_|refine yD ?_|refine yE ?_|refine yF ?_|refine yG ?_|refine yH ?_|refine yI ?_|refine yJ ?_|refine yK ?_)|((refine idCond ?_); first|refine yL ?_|refine yM ?_|refine yN ?_|refine yO ?_|refine yP (fun hg=>?_) fun hg=>?_|refine yQ ?_|refine yR ?_|refine yS (fun hg=>?_) fun hg=>?_|refine yT ?_|refine yU ?_|refine yV (fun hg=>?_) fun hg=>?_|refine yW ?_|refine yX ?_|refine yY (fun hg=>?_) fun hg=>?_))
    | ((with_reducible refine idO ?_); (with_reducible refine oM_gen fun Kv hK=>?_); simp [go_sem]; (try simp (disch := omega) only [wrapI64, wrapU8, wrapU32, wrapU64]); (first|refine hK _ _ ?_|refine And.intro (by omega) (hK _ _ ?_)); clear hK; clear Kv)))
    refine ⟨TrJ gt.length tl W7, vsMu gt.length, ⟨Below.refl _ _, _, _, 0, rfl, by omega, World.ownsRow_nil _ _ _ _⟩, ?_⟩
    have hk0 := hk
    rintro _ _ w5 ⟨h5, u1, o, i, rfl, hi, ho⟩
    have hk := hk0.next h5
    by_cases hin : i = gt.length
    · rw [List.take_of_length_le (by omega)] at ho
      repeat (any_goals (first
      | (with_reducible first|refine pureM_in ?_|((refine idGd ?_); first|refine zA ?_|refine zB ?_|refine zC ?_|refine zD ?_|refine zE ?_|((refine idGdD ?_); first|refine zF ?_|refine zG ?_|refine zH (fun hg=>?_) fun hg=>?_|refine zI ?_|refine zJ ?_|refine zK (fun hg=>?_) fun hg=>?_)|((refine idGdN ?_); first|refine zL ?_|refine zM ?_|refine zN (fun hg=>?_) fun hg=>?_|refine zO ?_|refine zP ?_|refine zQ (fun hg=>?_) fun hg=>?_)|refine zR ?_|refine zS ?_|refine zT ?_|refine zU ?_|refine zV ?_|refine zW ?_|refine zX (fun hg=>?_) fun hg=>?_|refine zY ?_|refine zZ ?_|refine yA (fun hg=>?_) fun hg=>?_)|((refine idPick ?_); first|refine yB ?_|refine yC ?_|refine yD ?_|refine yE ?_|refine yF ?_|refine yG ?_|refine yH ?_|refine yI ?_|refine yJ ?_|refine yK ?_)|((refine idCond ?_); first|refine yL ?_|refine yM ?_|refine yN ?_|refine yO ?_|refine yP (fun hg=>?_) fun hg=>?_|refine yQ ?_|refine yR ?_|refine yS (fun hg=>?_) fun hg=>?_|refine yT ?_|refine yU ?_|refine yV (fun hg=>?_) fun hg=>?_|refine yW ?_|refine yX ?_|refine yY (fun hg=>?_) fun hg=>?_))
      | ((with_reducible refine idO ?_); (with_reducible refine oM_gen fun Kv hK=>?_); simp [go_sem]; (try simp (disch := omega) only [wrapI64, wrapU8, wrapU32, wrapU64]); (first|refine hK _ _ ?_|refine And.intro (by omega) (hK _ _ ?_)); clear hK; clear Kv)))
      exact k2 _ _ _ eT2 hk.below (ho.ints hrng (by omega))
    · obtain ⟨b1, o1, hbe, hb1, ca, ra, hnn⟩ := hti.at (i := i) (by omega)
      cases hbe
      repeat (any_goals (first
      | (with_reducible first|refine pureM_in ?_|((refine idGd ?_); first|refine zA ?_|refine zB ?_|refine zC ?_|refine zD ?_|refine zE ?_|((refine idGdD ?_); first|refine zF ?_|refine zG ?_|refine zH (fun hg=>?_) fun hg=>?_|refine zI ?_|refine zJ ?_|refine zK (fun hg=>?_) fun hg=>?_)|((refine idGdN ?_); first|refine zL ?_|refine zM ?_|refine zN (fun hg=>?_) fun hg=>?_|refine zO ?_|refine zP ?_|refine zQ (fun hg=>?_) fun hg=>?_)|refine zR ?_|refine zS ?_|refine zT ?_|refine zU ?_|refine zV ?_|refine zW ?_|refine zX (fun hg=>?_) fun hg=>?_|refine zY ?_|refine zZ ?_|refine yA (fun hg=>?_) fun hg=>?_)|((refine idPick ?_); first|refine yB ?_|refine yC ?_|refine yD ?_|refine yE ?_|refine yF ?_|refine yG ?_|refine yH ?_|refine yI ?_|refine yJ ?_|refine yK ?_)|((refine idCond ?_); first|refine yL ?_|refine yM ?_|refine yN ?_|refine yO ?_|refine yP (fun hg=>?_) fun hg=>?_|refine yQ ?_|refine yR ?_|refine yS (fun hg=>?_) fun hg=>?_|refine yT ?_|refine yU ?_|refine yV (fun hg=>?_) fun hg=>?_|refine yW ?_|refine yX ?_|refine yY (fun hg=>?_) fun hg=>?_))
      | ((with_reducible refine idO ?_); (with_reducible refine oM_gen fun Kv hK=>?_); simp [go_sem, ca _ h5]; (try simp (disch := omega) only [wrapI64, wrapU8, wrapU32, wrapU64]); (first|refine hK _ _ ?_|refine And.intro (by omega) (hK _ _ ?_)); clear hK; clear Kv)))
      refine ⟨fun w' => Kn w _ w' ∧ Below W7.heap.size W7 w', ⟨hk.drew, h5.trans .drawn⟩, ?_⟩
      have h5 := h5.trans (Below.drawn (w := w5))
      have ho := ho.keep (Below.drawn (w := w5))
      have hk := hk.drew
      have hgl8 : 0 < gl.length := by omega
      repeat (any_goals (first
      | (with_reducible first|refine pureM_in ?_|refine pureQ_in ?_|refine pureH_in ?_|((refine idGdQ ?_); refine gdQ_conv fun _=>?_)|((refine idGdH ?_); refine gdH_conv fun _=>?_)|refine And.intro (Eq.refl (α := World) _) ?_|refine forall_one ?_|((refine idGd ?_); first|refine zA ?_|refine zB ?_|refine zC ?_|refine zD ?_|refine zE ?_|((refine idGdD ?_); first|refine zF ?_|refine zG ?_|refine zH (fun hg=>?_) fun hg=>?_|refine zI ?_|refine zJ ?_|refine zK (fun hg=>?_) fun hg=>?_)|((refine idGdN ?_); first|refine zL ?_|refine zM ?_|refine zN (fun hg=>?_) fun hg=>?_|refine zO ?_|refine zP ?_|refine zQ (fun hg=>?_) fun hg=>?_)|refine zR ?_|refine zS ?_|refine zT ?_|refine zU ?_|refine zV ?_|refine zW ?_|refine zX (fun hg=>?_) fun hg=>?_|refine zY ?_|refine zZ ?_|refine yA (fun hg=>?_) fun hg=>?_)|((refine idPick ?_); first|refine yB ?_|refine yC ?_|refine yD ?_|refine yE ?_|refine yF ?_|refine yG ?_|refine yH ?_|refine yI ?_|refine yJ ?_|refine yK ?_)|((refine idCond ?_); first|refine yL ?_|refine yM ?_|refine yN ?_|refine yO ?_|refine yP (fun hg=>?_) fun hg=>?_|refine yQ ?_|refine yR ?_|refine yS (fun hg=>?_) fun hg=>?_|refine yT ?_|refine yU ?_|refine yV (fun hg=>?_) fun hg=>?_|refine yW ?_|refine yX ?_|refine yY (fun hg=>?_) fun hg=>?_))
      | ((with_reducible refine idOQ ?_); first|(with_reducible first|refine wA ?_|refine wB ?_|refine wC ?_|refine wD ?_|refine wE ?_|refine wF ?_|refine oQ_nil ?_)|((with_reducible refine oQ_one ?_ ?_); exact ⟨_, rfl⟩)|(with_reducible refine oQ_of ⟨_, rfl⟩ (fun W0 hW0 => by (refine oM_gen (fun Kv hK => ?_)); simp [go_sem, hW0.1.cells, c8 _ hW0.2]; (first | exact hK _ _ ⟨rfl, rfl⟩ | exact ⟨by omega, hK _ _ ⟨rfl, rfl⟩⟩)) ?_))
      | ((with_reducible refine idOH ?_); first|(with_reducible first|refine vA ?_|refine vB ?_|refine vC ?_|refine vD ?_|refine vE ?_|refine vF ?_|refine oH_nil ?_)|(with_reducible refine oH_of ⟨_, rfl⟩ (fun W0 hW0 => by (refine oM_gen (fun Kv hK => ?_)); simp [go_sem, hW0.1.cells, c8 _ hW0.2]; (first | exact hK _ _ ⟨rfl, rfl⟩ | exact ⟨by omega, hK _ _ ⟨rfl, rfl⟩⟩)) ?_))
      | ((with_reducible refine idO ?_); (with_reducible refine oM_gen fun Kv hK=>?_); simp [go_sem]; (try simp (disch := omega) only [wrapI64, wrapU8, wrapU32, wrapU64]); (first|refine hK _ _ ?_|refine And.intro (by omega) (hK _ _ ?_)); clear hK; clear Kv)))
      refine over_ok s _ _ (hs.next hk.below) (fun w6 h6 => ?_)
      have hk := hk.next h6
      have ho := ho.keep h6
      have h5 := h5.on h6
      refine ⟨⟨hk, h5⟩, mk1 _ (mulQ_I64 _ _ _ (by simp)) (fun v7 w7 h7 hi7 => ?_)⟩
      have hk := hk.next h7
      have ho := ho.keep h7
      have h5 := h5.on h7
      refine ⟨⟨hk, h5⟩, append1 ho h5.size hi7 (by simp; omega) (fun v8 w8 ho8 h8 => ?_)⟩
      have h5 := h5.trans h8
      have hk := hk0.next h5
      refine ⟨⟨hk, h5⟩, ⟨hk, h5⟩, ?_⟩
      repeat (any_goals (first
      | (with_reducible first|refine pureM_in ?_|((refine idGd ?_); first|refine zA ?_|refine zB ?_|refine zC ?_|refine zD ?_|refine zE ?_|((refine idGdD ?_); first|refine zF ?_|refine zG ?_|refine zH (fun hg=>?_) fun hg=>?_|refine zI ?_|refine zJ ?_|refine zK (fun hg=>?_) fun hg=>?_)|((refine idGdN ?_); first|refine zL ?_|refine zM ?_|refine zN (fun hg=>?_) fun hg=>?_|refine zO ?_|refine zP ?_|refine zQ (fun hg=>?_) fun hg=>?_)|refine zR ?_|refine zS ?_|refine zT ?_|refine zU ?_|refine zV ?_|refine zW ?_|refine zX (fun hg=>?_) fun hg=>?_|refine zY ?_|refine zZ ?_|refine yA (fun hg=>?_) fun hg=>?_)|((refine idPick ?_); first|refine yB ?_|refine yC ?_|refine yD ?_|refine yE ?_|refine yF ?_|refine yG ?_|refine yH ?_|refine yI ?_|refine yJ ?_|refine yK ?_)|((refine idCond ?_); first|refine yL ?_|refine yM ?_|refine yN ?_|refine yO ?_|refine yP (fun hg=>?_) fun hg=>?_|refine yQ ?_|refine yR ?_|refine yS (fun hg=>?_) fun hg=>?_|refine yT ?_|refine yU ?_|refine yV (fun hg=>?_) fun hg=>?_|refine yW ?_|refine yX ?_|refine yY (fun hg=>?_) fun hg=>?_))
      | ((with_reducible refine idO ?_); (with_reducible refine oM_gen fun Kv hK=>?_); simp [go_sem]; (try simp (disch := omega) only [wrapI64, wrapU8, wrapU32, wrapU64]); (first|refine hK _ _ ?_|refine And.intro (by omega) (hK _ _ ?_)); clear hK; clear Kv)))
      refine ⟨⟨h5, _, _, i + 1, rfl, by omega, ?_⟩, ?_⟩
      · have e2 : tl.take (i + 1) = tl.take i ++ [overQ s gt[i] x0] := by
          rw [List.take_add_one, hat i _ (List.getElem?_eq_getElem (by omega))]
          rfl
        rw [e2]
        exact ho8
      · simp only [vsMu_eq]; omega
end
end Go.Proofs
--G
namespace Go.Proofs
open Go Go.Sh Go.RowKit FdSpec TkSpec
set_option linter.unusedSimpArgs false
set_option linter.unusedVariables false
set_option maxRecDepth 10000
section
variable {K : Value → World → Prop} {w w0 : World} {L : List (Addr × Value)}
theorem guiltyM_no {s : Stp} {t : Tkt} {a b : Spd} {l : List Int} (h : (gapsM s t a b).2 = false ∨ l.length + 1 ≠ (gapsM s t a b).1.length ∨ numsM s 0 l = false) : guiltyM s t a b l = false := by
  unfold guiltyM
  rw [if_neg]
  rcases h with h | h | h <;> simp [h]
def GuJ (ps : List (Int × Int)) (f : Int × Int → Bool) (R : Bool) (Wl : World) (vs : List Value) (w' : World) : Prop := Below Wl.heap.size Wl w' ∧ ∃ (v u o : Value) (i : Nat), vs = [v, u, o, .int .i64 (i : Int)] ∧ i ≤ ps.length ∧ (ps.drop i).all f = R
theorem Guilty_ok (s : Stp) (t : Tkt) (x y : Spd) {v xv yv lv : Value} {l : List Int} (ht : TktR t) (hs : SetR w s v) (hx : SpdR w x xv) (hy : SpdR w y yv) (hl : Ints w lv l)
    (k : ∀ w', Below w.heap.size w w' → K (.bool (guiltyM s t x y l)) w') : callM Tryz.prog 60 #[stpV s v, tktV t, spdV x xv, spdV y yv, lv] K w := by
  apply sh_60_ok
  unfold sh_60
  obtain ⟨ad, c, rfl⟩ := hs.ints.isSlice
  have hx0 := hx
  have hy0 := hy
  obtain ⟨xad, xc, rfl⟩ := hx.answers.isSlice
  obtain ⟨yad, yc, rfl⟩ := hy.answers.isSlice
  obtain ⟨lad, lc, rfl⟩ := hl.isSlice
  have hll := hl.len
  have k2 : ∀ w' r, guiltyM s t x y l = r → Below w.heap.size w w' → K (.bool r) w' := fun w' r e hb => by
    rw [← e]
    exact k w' hb
  clear k
  refine box_kn (cs := stpC s (.slice ad s.bases.length c)) rfl (.start w) fun b1 W hk hb1 hbb => ?_
  refine box_kn (cs := tktC t) rfl hk fun b2 W2 hk hb2 hbb => ?_
  refine box_kn (cs := spdC x (.slice xad x.answers.length xc)) rfl hk fun b3 W3 hk hb3 hbb => ?_
  refine box_kn (cs := spdC y (.slice yad y.answers.length yc)) rfl hk fun b4 W4 hk hb4 hbb => ?_
  clear hb1 hb2 hb3 hb4
  repeat (any_goals (first
  | (with_reducible first|refine pureM_in ?_|((refine idGd ?_); first|refine zA ?_|refine zB ?_|refine zC ?_|refine zD ?_|refine zE ?_|((refine idGdD ?_); first|refine zF ?_|refine zG ?_|refine zH (fun hg=>?_) fun hg=>?_|refine zI ?_|refine zJ ?_|refine zK (fun hg=>?_) fun hg=>?_)|((refine idGdN ?_); first|refine zL ?_|refine zM ?_|refine zN (fun hg=>?_) fun hg=>?_|refine zO ?_|refine zP ?_|refine zQ (fun hg=>?_) fun hg=>?_)|refine zR ?_|refine zS ?_|refine zT ?_|refine zU ?_|refine zV ?_|refine zW ?_|refine zX (fun hg=>?_) fun hg=>?_|refine zY ?_|refine zZ ?_|refine yA (fun hg=>?_) fun hg=>?_)|((refine idPick ?_); first|refine yB ?_|refine yC ?_|refine yD ?_|refine yE ?_|refine yF ?_|refine yG ?_|refine yH ?_|refine yI ?_|refine yJ ?_|refine yK ?_)|((refine idCond ?_); first|refine yL ?_|refine yM ?_|refine yN ?_|refine yO ?_|refine yP (fun hg=>?_) fun hg=>?_|refine yQ ?_|refine yR ?_|refine yS (fun hg=>?_) fun hg=>?_|refine yT ?_|refine yU ?_|refine yV (fun hg=>?_) fun hg=>?_|refine yW ?_|refine yX ?_|refine yY (fun hg=>?_) fun hg=>?_))
  | ((with_reducible refine idO ?_); (with_reducible refine oM_gen fun Kv hK=>?_); simp [go_sem, hk.cells]; (try simp (disch := omega) only [wrapI64, wrapU8, wrapU32, wrapU64]); (first|refine hK _ _ ?_|refine And.intro (by omega) (hK _ _ ?_)); clear hK; clear Kv)))
  refine gaps_ok s t x y ht (hs.next hk.below) (hx0.next hk.below) (hy0.next hk.below) (fun w2 s' ad' n' c' ov h2 hgi hcap hds => ?_)
  have hk := hk.next h2
  have hN := guiltyM_no (s := s) (t := t) (a := x) (b := y) (l := l)
  have hG := gapsM_len (s := s) (t := t) (a := x) (b := y)
  have eT : (gapsM s t x y).2 = true → l.length + 1 = (gapsM s t x y).1.length → numsM s 0 l = true → guiltyM s t x y l = (l.zip (gapsM s t x y).1.tail).all fun p => decide (mulQ s p.1 [(gapsM s t x y).1.headD 0] = p.2) := fun h1 h2 h3 => by
    unfold guiltyM; rw [if_pos (by rw [h1, h3, decide_eq_true h2]; rfl)]
  obtain ⟨⟨gl, u⟩, hg⟩ : ∃ p, gapsM s t x y = p := ⟨_, rfl⟩
  rw [hg] at hN hG eT hgi hds ⊢
  simp only at hN hG eT hgi hds ⊢
  obtain ⟨oad0, oc0, rfl⟩ := hgi.isSlice
  have hgl := hgi.len
  cases u with
  | false =>
    repeat (any_goals (first
    | ((with_reducible refine local_desk' s' ad' n' c' hk ?_); intro b7 W7 hk hb7 hg7)
    | (with_reducible first|refine pureM_in ?_|((refine idGd ?_); first|refine zA ?_|refine zB ?_|refine zC ?_|refine zD ?_|refine zE ?_|((refine idGdD ?_); first|refine zF ?_|refine zG ?_|refine zH (fun hg=>?_) fun hg=>?_|refine zI ?_|refine zJ ?_|refine zK (fun hg=>?_) fun hg=>?_)|((refine idGdN ?_); first|refine zL ?_|refine zM ?_|refine zN (fun hg=>?_) fun hg=>?_|refine zO ?_|refine zP ?_|refine zQ (fun hg=>?_) fun hg=>?_)|refine zR ?_|refine zS ?_|refine zT ?_|refine zU ?_|refine zV ?_|refine zW ?_|refine zX (fun hg=>?_) fun hg=>?_|refine zY ?_|refine zZ ?_|refine yA (fun hg=>?_) fun hg=>?_)|((refine idPick ?_); first|refine yB ?_|refine yC ?_|refine yD ?_|refine yE ?_|refine yF ?_|refine yG ?_|refine yH ?_|refine yI ?_|refine yJ ?_|refine yK ?_)|((refine idCond ?_); first|refine yL ?_|refine yM ?_|refine yN ?_|refine yO ?_|refine yP (fun hg=>?_) fun hg=>?_|refine yQ ?_|refine yR ?_|refine yS (fun hg=>?_) fun hg=>?_|refine yT ?_|refine yU ?_|refine yV (fun hg=>?_) fun hg=>?_|refine yW ?_|refine yX ?_|refine yY (fun hg=>?_) fun hg=>?_))
    | ((with_reducible refine idO ?_); (with_reducible refine oM_gen fun Kv hK=>?_); simp [go_sem, hk.cells]; (try simp (disch := omega) only [wrapI64, wrapU8, wrapU32, wrapU64]); (first|refine hK _ _ ?_|refine And.intro (by omega) (hK _ _ ?_)); clear hK; clear Kv)))
    exact k2 _ _ (hN (.inl rfl)) hk.below
  | true =>
    have hds := hds rfl
    obtain ⟨hG, hv⟩ := hG rfl
    have hv7 := validS_len hv
    rw [hds]
    by_cases hlen : l.length + 1 = gl.length
    · repeat (any_goals (first
      | ((with_reducible refine local_desk' s ad s.bases.length c hk ?_); intro b7 W7 hk hb7 hg7)
      | (with_reducible first|refine pureM_in ?_|((refine idGd ?_); first|refine zA ?_|refine zB ?_|refine zC ?_|refine zD ?_|refine zE ?_|((refine idGdD ?_); first|refine zF ?_|refine zG ?_|refine zH (fun hg=>?_) fun hg=>?_|refine zI ?_|refine zJ ?_|refine zK (fun hg=>?_) fun hg=>?_)|((refine idGdN ?_); first|refine zL ?_|refine zM ?_|refine zN (fun hg=>?_) fun hg=>?_|refine zO ?_|refine zP ?_|refine zQ (fun hg=>?_) fun hg=>?_)|refine zR ?_|refine zS ?_|refine zT ?_|refine zU ?_|refine zV ?_|refine zW ?_|refine zX (fun hg=>?_) fun hg=>?_|refine zY ?_|refine zZ ?_|refine yA (fun hg=>?_) fun hg=>?_)|((refine idPick ?_); first|refine yB ?_|refine yC ?_|refine yD ?_|refine yE ?_|refine yF ?_|refine yG ?_|refine yH ?_|refine yI ?_|refine yJ ?_|refine yK ?_)|((refine idCond ?_); first|refine yL ?_|refine yM ?_|refine yN ?_|refine yO ?_|refine yP (fun hg=>?_) fun hg=>?_|refine yQ ?_|refine yR ?_|refine yS (fun hg=>?_) fun hg=>?_|refine yT ?_|refine yU ?_|refine yV (fun hg=>?_) fun hg=>?_|refine yW ?_|refine yX ?_|refine yY (fun hg=>?_) fun hg=>?_))
      | ((with_reducible refine idO ?_); (with_reducible refine oM_gen fun Kv hK=>?_); simp [go_sem, hk.cells]; (try simp (disch := omega) only [wrapI64, wrapU8, wrapU32, wrapU64]); (first|refine hK _ _ ?_|refine And.intro (by omega) (hK _ _ ?_)); clear hK; clear Kv)))
      have hk0 := hk
      refine nums_ok s 0 (hs.next hk.below) (hl.next hk.below) (fun w3 h3 => ?_)
      have hk := hk.next h3
      cases hn : numsM s 0 l with
      | false =>
        repeat (any_goals (first
        | (with_reducible first|refine pureM_in ?_|((refine idGd ?_); first|refine zA ?_|refine zB ?_|refine zC ?_|refine zD ?_|refine zE ?_|((refine idGdD ?_); first|refine zF ?_|refine zG ?_|refine zH (fun hg=>?_) fun hg=>?_|refine zI ?_|refine zJ ?_|refine zK (fun hg=>?_) fun hg=>?_)|((refine idGdN ?_); first|refine zL ?_|refine zM ?_|refine zN (fun hg=>?_) fun hg=>?_|refine zO ?_|refine zP ?_|refine zQ (fun hg=>?_) fun hg=>?_)|refine zR ?_|refine zS ?_|refine zT ?_|refine zU ?_|refine zV ?_|refine zW ?_|refine zX (fun hg=>?_) fun hg=>?_|refine zY ?_|refine zZ ?_|refine yA (fun hg=>?_) fun hg=>?_)|((refine idPick ?_); first|refine yB ?_|refine yC ?_|refine yD ?_|refine yE ?_|refine yF ?_|refine yG ?_|refine yH ?_|refine yI ?_|refine yJ ?_|refine yK ?_)|((refine idCond ?_); first|refine yL ?_|refine yM ?_|refine yN ?_|refine yO ?_|refine yP (fun hg=>?_) fun hg=>?_|refine yQ ?_|refine yR ?_|refine yS (fun hg=>?_) fun hg=>?_|refine yT ?_|refine yU ?_|refine yV (fun hg=>?_) fun hg=>?_|refine yW ?_|refine yX ?_|refine yY (fun hg=>?_) fun hg=>?_))
        | ((with_reducible refine idO ?_); (with_reducible refine oM_gen fun Kv hK=>?_); simp [go_sem, hk.cells]; (try simp (disch := omega) only [wrapI64, wrapU8, wrapU32, wrapU64]); (first|refine hK _ _ ?_|refine And.intro (by omega) (hK _ _ ?_)); clear hK; clear Kv)))
        exact k2 _ _ (hN (.inr (.inr hn))) hk.below
      | true =>
        have eT2 := eT rfl hlen hn
        obtain ⟨x0, hx0⟩ : ∃ x0, gl.headD 0 = x0 := ⟨_, rfl⟩
        obtain ⟨ob, oo, rfl, c8, r8⟩ := hgi.headD (by omega)
        rw [hx0] at c8 r8 eT2
        have c8 := fun w' hb => c8 w' (hb7.on (h3.on hb))
        have hgi3 := (hgi.next hb7).next h3
        have hzl : (l.zip gl.tail).length = l.length := by simp; omega
        repeat (any_goals (first
        | (with_reducible first|refine pureM_in ?_|((refine idGd ?_); first|refine zA ?_|refine zB ?_|refine zC ?_|refine zD ?_|refine zE ?_|((refine idGdD ?_); first|refine zF ?_|refine zG ?_|refine zH (fun hg=>?_) fun hg=>?_|refine zI ?_|refine zJ ?_|refine zK (fun hg=>?_) fun hg=>?_)|((refine idGdN ?_); first|refine zL ?_|refine zM ?_|refine zN (fun hg=>?_) fun hg=>?_|refine zO ?_|refine zP ?_|refine zQ (fun hg=>?_) fun hg=>?_)|refine zR ?_|refine zS ?_|refine zT ?_|refine zU ?_|refine zV ?_|refine zW ?_|refine zX (fun hg=>?_) fun hg=>?_|refine zY ?_|refine zZ ?_|refine yA (fun hg=>?_) fun hg=>?_)|((refine idPick ?_); first|refine yB ?_|refine yC ?_|refine yD ?_|refine yE ?_|refine yF ?_|refine yG ?_|refine yH ?_|refine yI ?_|refine yJ ?_|refine yK ?_)|((refine idCond ?_); first|refine yL ?_|refine yM ?_|refine yN ?_|refine yO ?_|refine yP (fun hg=>?_) fun hg=>?_|refine yQ ?_|refine yR ?_|refine yS (fun hg=>?_) fun hg=>?_|refine yT ?_|refine yU ?_|refine yV (fun hg=>?_) fun hg=>?_|refine yW ?_|refine yX ?_|refine yY (fun hg=>?_) fun hg=>?_))
        | ((with_reducible refine idO ?_); (with_reducible refine oM_gen fun Kv hK=>?_); simp [go_sem, hk.cells]; (try simp (disch := omega) only [wrapI64, wrapU8, wrapU32, wrapU64]); (first|refine hK _ _ ?_|refine And.intro (by omega) (hK _ _ ?_)); clear hK; clear Kv)))
        refine ⟨GuJ (l.zip gl.tail) (fun p => decide (mulQ s p.1 [x0] = p.2)) _ w3, pdMu l.length, ⟨Below.refl _ _, _, _, _, 0, rfl, by omega, rfl⟩, ?_⟩
        have hk0 := hk
        rintro _ _ w5 ⟨h5, u1, u2, u3, i, rfl, hi, hall⟩
        rw [hzl] at hi
        have hk := hk0.next h5
        by_cases hin : i = l.length
        · rw [List.drop_of_length_le (by omega), List.all_nil] at hall
          repeat (any_goals (first
          | (with_reducible first|refine pureM_in ?_|((refine idGd ?_); first|refine zA ?_|refine zB ?_|refine zC ?_|refine zD ?_|refine zE ?_|((refine idGdD ?_); first|refine zF ?_|refine zG ?_|refine zH (fun hg=>?_) fun hg=>?_|refine zI ?_|refine zJ ?_|refine zK (fun hg=>?_) fun hg=>?_)|((refine idGdN ?_); first|refine zL ?_|refine zM ?_|refine zN (fun hg=>?_) fun hg=>?_|refine zO ?_|refine zP ?_|refine zQ (fun hg=>?_) fun hg=>?_)|refine zR ?_|refine zS ?_|refine zT ?_|refine zU ?_|refine zV ?_|refine zW ?_|refine zX (fun hg=>?_) fun hg=>?_|refine zY ?_|refine zZ ?_|refine yA (fun hg=>?_) fun hg=>?_)|((refine idPick ?_); first|refine yB ?_|refine yC ?_|refine yD ?_|refine yE ?_|refine yF ?_|refine yG ?_|refine yH ?_|refine yI ?_|refine yJ ?_|refine yK ?_)|((refine idCond ?_); first|refine yL ?_|refine yM ?_|refine yN ?_|refine yO ?_|refine yP (fun hg=>?_) fun hg=>?_|refine yQ ?_|refine yR ?_|refine yS (fun hg=>?_) fun hg=>?_|refine yT ?_|refine yU ?_|refine yV (fun hg=>?_) fun hg=>?_|refine yW ?_|refine yX ?_|refine yY (fun hg=>?_) fun hg=>?_))
          | ((with_reducible refine idO ?_); (with_reducible refine oM_gen fun Kv hK=>?_); simp [go_sem]; (try simp (disch := omega) only [wrapI64, wrapU8, wrapU32, wrapU64]); (first|refine hK _ _ ?_|refine And.intro (by omega) (hK _ _ ?_)); clear hK; clear Kv)))
          exact k2 _ _ (eT2.trans hall.symm) hk.below
        · rw [zip_drop l gl.tail i (by omega) (by rw [List.length_tail]; omega), List.all_cons] at hall
          simp only [List.getElem_tail] at hall
          obtain ⟨b1, o1, rfl, hb1, ca, ra, _⟩ := hl.at (i := i) (by omega)
          obtain ⟨b2, o2, hbe, hb2, cb, rb, _⟩ := hgi3.at (i := i + 1) (by omega)
          cases hbe
          repeat (any_goals (first
          | (with_reducible first|refine pureM_in ?_|((refine idGd ?_); first|refine zA ?_|refine zB ?_|refine zC ?_|refine zD ?_|refine zE ?_|((refine idGdD ?_); first|refine zF ?_|refine zG ?_|refine zH (fun hg=>?_) fun hg=>?_|refine zI ?_|refine zJ ?_|refine zK (fun hg=>?_) fun hg=>?_)|((refine idGdN ?_); first|refine zL ?_|refine zM ?_|refine zN (fun hg=>?_) fun hg=>?_|refine zO ?_|refine zP ?_|refine zQ (fun hg=>?_) fun hg=>?_)|refine zR ?_|refine zS ?_|refine zT ?_|refine zU ?_|refine zV ?_|refine zW ?_|refine zX (fun hg=>?_) fun hg=>?_|refine zY ?_|refine zZ ?_|refine yA (fun hg=>?_) fun hg=>?_)|((refine idPick ?_); first|refine yB ?_|refine yC ?_|refine yD ?_|refine yE ?_|refine yF ?_|refine yG ?_|refine yH ?_|refine yI ?_|refine yJ ?_|refine yK ?_)|((refine idCond ?_); first|refine yL ?_|refine yM ?_|refine yN ?_|refine yO ?_|refine yP (fun hg=>?_) fun hg=>?_|refine yQ ?_|refine yR ?_|refine yS (fun hg=>?_) fun hg=>?_|refine yT ?_|refine yU ?_|refine yV (fun hg=>?_) fun hg=>?_|refine yW ?_|refine yX ?_|refine yY (fun hg=>?_) fun hg=>?_))
          | ((with_reducible refine idO ?_); (with_reducible refine oM_gen fun Kv hK=>?_); simp [go_sem, ca _ hk.below, hk.cells]; (try simp (disch := omega) only [wrapI64, wrapU8, wrapU32, wrapU64]); (first|refine hK _ _ ?_|refine And.intro (by omega) (hK _ _ ?_)); clear hK; clear Kv)))
          refine ⟨fun w' => Kn w _ w' ∧ Below w3.heap.size w3 w', ⟨hk.drew, h5.trans .drawn⟩, ?_⟩
          have h5 := h5.trans (Below.drawn (w := w5))
          have hk := hk.drew
          have hgl8 : 0 < gl.length := by omega
          have e7 : IntKind.i64.wrap ((i : Int) + 1) = ((i + 1 : Nat) : Int) := by rw [wrapI64 _ (by omega) (by omega)]; omega
          repeat (any_goals (first
          | ((with_reducible refine mk1 x0 r8 ?_); intro v7 w7 h7 hi7)
          | (with_reducible first|refine pureM_in ?_|refine pureQ_in ?_|refine pureH_in ?_|((refine idGdQ ?_); refine gdQ_conv fun _=>?_)|((refine idGdH ?_); refine gdH_conv fun _=>?_)|refine And.intro (Eq.refl (α := World) _) ?_|refine forall_one ?_|((refine idGd ?_); first|refine zA ?_|refine zB ?_|refine zC ?_|refine zD ?_|refine zE ?_|((refine idGdD ?_); first|refine zF ?_|refine zG ?_|refine zH (fun hg=>?_) fun hg=>?_|refine zI ?_|refine zJ ?_|refine zK (fun hg=>?_) fun hg=>?_)|((refine idGdN ?_); first|refine zL ?_|refine zM ?_|refine zN (fun hg=>?_) fun hg=>?_|refine zO ?_|refine zP ?_|refine zQ (fun hg=>?_) fun hg=>?_)|refine zR ?_|refine zS ?_|refine zT ?_|refine zU ?_|refine zV ?_|refine zW ?_|refine zX (fun hg=>?_) fun hg=>?_|refine zY ?_|refine zZ ?_|refine yA (fun hg=>?_) fun hg=>?_)|((refine idPick ?_); first|refine yB ?_|refine yC ?_|refine yD ?_|refine yE ?_|refine yF ?_|refine yG ?_|refine yH ?_|refine yI ?_|refine yJ ?_|refine yK ?_)|((refine idCond ?_); first|refine yL ?_|refine yM ?_|refine yN ?_|refine yO ?_|refine yP (fun hg=>?_) fun hg=>?_|refine yQ ?_|refine yR ?_|refine yS (fun hg=>?_) fun hg=>?_|refine yT ?_|refine yU ?_|refine yV (fun hg=>?_) fun hg=>?_|refine yW ?_|refine yX ?_|refine yY (fun hg=>?_) fun hg=>?_))
          | ((with_reducible refine idOQ ?_); first|(with_reducible first|refine wA ?_|refine wB ?_|refine wC ?_|refine wD ?_|refine wE ?_|refine wF ?_|refine oQ_nil ?_)|((with_reducible refine oQ_one ?_ ?_); exact ⟨_, rfl⟩)|(with_reducible refine oQ_of ⟨_, rfl⟩ (fun W0 hW0 => by (refine oM_gen (fun Kv hK => ?_)); simp [go_sem, hW0.1.cells, c8 _ hW0.2, e7, cb _ hW0.2]; (first | exact hK _ _ ⟨rfl, rfl⟩ | exact ⟨by omega, hK _ _ ⟨rfl, rfl⟩⟩)) ?_))
          | ((with_reducible refine idOH ?_); first|(with_reducible first|refine vA ?_|refine vB ?_|refine vC ?_|refine vD ?_|refine vE ?_|refine vF ?_|refine oH_nil ?_)|(with_reducible refine oH_of ⟨_, rfl⟩ (fun W0 hW0 => by (refine oM_gen (fun Kv hK => ?_)); simp [go_sem, hW0.1.cells, c8 _ hW0.2, e7, cb _ hW0.2]; (first | exact hK _ _ ⟨rfl, rfl⟩ | exact ⟨by omega, hK _ _ ⟨rfl, rfl⟩⟩)) ?_))
          | ((with_reducible refine idO ?_); (with_reducible refine oM_gen fun Kv hK=>?_); simp [go_sem]; (try simp (disch := omega) only [wrapI64, wrapU8, wrapU32, wrapU64]); (first|refine hK _ _ ?_|refine And.intro (by omega) (hK _ _ ?_)); clear hK; clear Kv)))
          have hk := hk.next h7
          have h5 := h5.on h7
          refine ⟨⟨hk, h5⟩, mul_ok s _ (hs.next hk.below) hi7 (fun w8 h8 => ?_)⟩
          have hk := hk.next h8
          have h5 := h5.on h8
          refine ⟨⟨hk, h5⟩, ?_⟩
          by_cases he : mulQ s l[i] [x0] = gl[i + 1]
          · repeat (any_goals (first
            | (with_reducible first|refine pureM_in ?_|refine pureQ_in ?_|refine pureH_in ?_|((refine idGdQ ?_); refine gdQ_conv fun _=>?_)|((refine idGdH ?_); refine gdH_conv fun _=>?_)|refine And.intro (Eq.refl (α := World) _) ?_|refine forall_one ?_|((refine idGd ?_); first|refine zA ?_|refine zB ?_|refine zC ?_|refine zD ?_|refine zE ?_|((refine idGdD ?_); first|refine zF ?_|refine zG ?_|refine zH (fun hg=>?_) fun hg=>?_|refine zI ?_|refine zJ ?_|refine zK (fun hg=>?_) fun hg=>?_)|((refine idGdN ?_); first|refine zL ?_|refine zM ?_|refine zN (fun hg=>?_) fun hg=>?_|refine zO ?_|refine zP ?_|refine zQ (fun hg=>?_) fun hg=>?_)|refine zR ?_|refine zS ?_|refine zT ?_|refine zU ?_|refine zV ?_|refine zW ?_|refine zX (fun hg=>?_) fun hg=>?_|refine zY ?_|refine zZ ?_|refine yA (fun hg=>?_) fun hg=>?_)|((refine idPick ?_); first|refine yB ?_|refine yC ?_|refine yD ?_|refine yE ?_|refine yF ?_|refine yG ?_|refine yH ?_|refine yI ?_|refine yJ ?_|refine yK ?_)|((refine idCond ?_); first|refine yL ?_|refine yM ?_|refine yN ?_|refine yO ?_|refine yP (fun hg=>?_) fun hg=>?_|refine yQ ?_|refine yR ?_|refine yS (fun hg=>?_) fun hg=>?_|refine yT ?_|refine yU ?_|refine yV (fun hg=>?_) fun hg=>?_|refine yW ?_|refine yX ?_|refine yY (fun hg=>?_) fun hg=>?_))
            | ((with_reducible refine idOQ ?_); first|(with_reducible first|refine wA ?_|refine wB ?_|refine wC ?_|refine wD ?_|refine wE ?_|refine wF ?_|refine oQ_nil ?_)|((with_reducible refine oQ_one ?_ ?_); exact ⟨_, rfl⟩)|(with_reducible refine oQ_of ⟨_, rfl⟩ (fun W0 hW0 => by (refine oM_gen (fun Kv hK => ?_)); simp [go_sem, he]; (first | exact hK _ _ ⟨rfl, rfl⟩ | exact ⟨by omega, hK _ _ ⟨rfl, rfl⟩⟩)) ?_))
            | ((with_reducible refine idOH ?_); first|(with_reducible first|refine vA ?_|refine vB ?_|refine vC ?_|refine vD ?_|refine vE ?_|refine vF ?_|refine oH_nil ?_)|(with_reducible refine oH_of ⟨_, rfl⟩ (fun W0 hW0 => by (refine oM_gen (fun Kv hK => ?_)); simp [go_sem, he]; (first | exact hK _ _ ⟨rfl, rfl⟩ | exact ⟨by omega, hK _ _ ⟨rfl, rfl⟩⟩)) ?_))
            | ((with_reducible refine idO ?_); (with_reducible refine oM_gen fun Kv hK=>?_); simp [go_sem]; (try simp (disch := omega) only [wrapI64, wrapU8, wrapU32, wrapU64]); (first|refine hK _ _ ?_|refine And.intro (by omega) (hK _ _ ?_)); clear hK; clear Kv)))
            refine ⟨⟨hk, h5⟩, ?_⟩
            repeat (any_goals (first
            | (with_reducible first|refine pureM_in ?_|((refine idGd ?_); first|refine zA ?_|refine zB ?_|refine zC ?_|refine zD ?_|refine zE ?_|((refine idGdD ?_); first|refine zF ?_|refine zG ?_|refine zH (fun hg=>?_) fun hg=>?_|refine zI ?_|refine zJ ?_|refine zK (fun hg=>?_) fun hg=>?_)|((refine idGdN ?_); first|refine zL ?_|refine zM ?_|refine zN (fun hg=>?_) fun hg=>?_|refine zO ?_|refine zP ?_|refine zQ (fun hg=>?_) fun hg=>?_)|refine zR ?_|refine zS ?_|refine zT ?_|refine zU ?_|refine zV ?_|refine zW ?_|refine zX (fun hg=>?_) fun hg=>?_|refine zY ?_|refine zZ ?_|refine yA (fun hg=>?_) fun hg=>?_)|((refine idPick ?_); first|refine yB ?_|refine yC ?_|refine yD ?_|refine yE ?_|refine yF ?_|refine yG ?_|refine yH ?_|refine yI ?_|refine yJ ?_|refine yK ?_)|((refine idCond ?_); first|refine yL ?_|refine yM ?_|refine yN ?_|refine yO ?_|refine yP (fun hg=>?_) fun hg=>?_|refine yQ ?_|refine yR ?_|refine yS (fun hg=>?_) fun hg=>?_|refine yT ?_|refine yU ?_|refine yV (fun hg=>?_) fun hg=>?_|refine yW ?_|refine yX ?_|refine yY (fun hg=>?_) fun hg=>?_))
            | ((with_reducible refine idO ?_); (with_reducible refine oM_gen fun Kv hK=>?_); simp [go_sem, he]; (try simp (disch := omega) only [wrapI64, wrapU8, wrapU32, wrapU64]); (first|refine hK _ _ ?_|refine And.intro (by omega) (hK _ _ ?_)); clear hK; clear Kv)))
            rw [decide_eq_true he, Bool.true_and] at hall
            refine ⟨⟨h5, _, _, _, i + 1, rfl, by omega, hall⟩, ?_⟩
            simp only [pdMu_eq]; omega
          · repeat (any_goals (first
            | (with_reducible first|refine pureM_in ?_|refine pureQ_in ?_|refine pureH_in ?_|((refine idGdQ ?_); refine gdQ_conv fun _=>?_)|((refine idGdH ?_); refine gdH_conv fun _=>?_)|refine And.intro (Eq.refl (α := World) _) ?_|refine forall_one ?_|((refine idGd ?_); first|refine zA ?_|refine zB ?_|refine zC ?_|refine zD ?_|refine zE ?_|((refine idGdD ?_); first|refine zF ?_|refine zG ?_|refine zH (fun hg=>?_) fun hg=>?_|refine zI ?_|refine zJ ?_|refine zK (fun hg=>?_) fun hg=>?_)|((refine idGdN ?_); first|refine zL ?_|refine zM ?_|refine zN (fun hg=>?_) fun hg=>?_|refine zO ?_|refine zP ?_|refine zQ (fun hg=>?_) fun hg=>?_)|refine zR ?_|refine zS ?_|refine zT ?_|refine zU ?_|refine zV ?_|refine zW ?_|refine zX (fun hg=>?_) fun hg=>?_|refine zY ?_|refine zZ ?_|refine yA (fun hg=>?_) fun hg=>?_)|((refine idPick ?_); first|refine yB ?_|refine yC ?_|refine yD ?_|refine yE ?_|refine yF ?_|refine yG ?_|refine yH ?_|refine yI ?_|refine yJ ?_|refine yK ?_)|((refine idCond ?_); first|refine yL ?_|refine yM ?_|refine yN ?_|refine yO ?_|refine yP (fun hg=>?_) fun hg=>?_|refine yQ ?_|refine yR ?_|refine yS (fun hg=>?_) fun hg=>?_|refine yT ?_|refine yU ?_|refine yV (fun hg=>?_) fun hg=>?_|refine yW ?_|refine yX ?_|refine yY (fun hg=>?_) fun hg=>?_))
            | ((with_reducible refine idOQ ?_); first|(with_reducible first|refine wA ?_|refine wB ?_|refine wC ?_|refine wD ?_|refine wE ?_|refine wF ?_|refine oQ_nil ?_)|((with_reducible refine oQ_one ?_ ?_); exact ⟨_, rfl⟩)|(with_reducible refine oQ_of ⟨_, rfl⟩ (fun W0 hW0 => by (refine oM_gen (fun Kv hK => ?_)); simp [go_sem, he]; (first | exact hK _ _ ⟨rfl, rfl⟩ | exact ⟨by omega, hK _ _ ⟨rfl, rfl⟩⟩)) ?_))
            | ((with_reducible refine idOH ?_); first|(with_reducible first|refine vA ?_|refine vB ?_|refine vC ?_|refine vD ?_|refine vE ?_|refine vF ?_|refine oH_nil ?_)|(with_reducible refine oH_of ⟨_, rfl⟩ (fun W0 hW0 => by (refine oM_gen (fun Kv hK => ?_)); simp [go_sem, he]; (first | exact hK _ _ ⟨rfl, rfl⟩ | exact ⟨by omega, hK _ _ ⟨rfl, rfl⟩⟩)) ?_))
            | ((with_reducible refine idO ?_); (with_reducible refine oM_gen fun Kv hK=>?_); simp [go_sem]; (try simp (disch := omega) only [wrapI64, wrapU8, wrapU32, wrapU64]); (first|refine hK _ _ ?_|refine And.intro (by omega) (hK _ _ ?_)); clear hK; clear Kv)))
            refine ⟨⟨hk, h5⟩, ?_⟩
            repeat (any_goals (first
            | (with_reducible first|refine pureM_in ?_|((refine idGd ?_); first|refine zA ?_|refine zB ?_|refine zC ?_|refine zD ?_|refine zE ?_|((refine idGdD ?_); first|refine zF ?_|refine zG ?_|refine zH (fun hg=>?_) fun hg=>?_|refine zI ?_|refine zJ ?_|refine zK (fun hg=>?_) fun hg=>?_)|((refine idGdN ?_); first|refine zL ?_|refine zM ?_|refine zN (fun hg=>?_) fun hg=>?_|refine zO ?_|refine zP ?_|refine zQ (fun hg=>?_) fun hg=>?_)|refine zR ?_|refine zS ?_|refine zT ?_|refine zU ?_|refine zV ?_|refine zW ?_|refine zX (fun hg=>?_) fun hg=>?_|refine zY ?_|refine zZ ?_|refine yA (fun hg=>?_) fun hg=>?_)|((refine idPick ?_); first|refine yB ?_|refine yC ?_|refine yD ?_|refine yE ?_|refine yF ?_|refine yG ?_|refine yH ?_|refine yI ?_|refine yJ ?_|refine yK ?_)|((refine idCond ?_); first|refine yL ?_|refine yM ?_|refine yN ?_|refine yO ?_|refine yP (fun hg=>?_) fun hg=>?_|refine yQ ?_|refine yR ?_|refine yS (fun hg=>?_) fun hg=>?_|refine yT ?_|refine yU ?_|refine yV (fun hg=>?_) fun hg=>?_|refine yW ?_|refine yX ?_|refine yY (fun hg=>?_) fun hg=>?_))
            | ((with_reducible refine idO ?_); (with_reducible refine oM_gen fun Kv hK=>?_); simp [go_sem, he]; (try simp (disch := omega) only [wrapI64, wrapU8, wrapU32, wrapU64]); (first|refine hK _ _ ?_|refine And.intro (by omega) (hK _ _ ?_)); clear hK; clear Kv)))
            rw [decide_eq_false he, Bool.false_and] at hall
            exact k2 _ _ (eT2.trans hall.symm) hk.below
    · repeat (any_goals (first
      | ((with_reducible refine local_desk' s ad s.bases.length c hk ?_); intro b7 W7 hk hb7 hg7)
      | (with_reducible first|refine pureM_in ?_|((refine idGd ?_); first|refine zA ?_|refine zB ?_|refine zC ?_|refine zD ?_|refine zE ?_|((refine idGdD ?_); first|refine zF ?_|refine zG ?_|refine zH (fun hg=>?_) fun hg=>?_|refine zI ?_|refine zJ ?_|refine zK (fun hg=>?_) fun hg=>?_)|((refine idGdN ?_); first|refine zL ?_|refine zM ?_|refine zN (fun hg=>?_) fun hg=>?_|refine zO ?_|refine zP ?_|refine zQ (fun hg=>?_) fun hg=>?_)|refine zR ?_|refine zS ?_|refine zT ?_|refine zU ?_|refine zV ?_|refine zW ?_|refine zX (fun hg=>?_) fun hg=>?_|refine zY ?_|refine zZ ?_|refine yA (fun hg=>?_) fun hg=>?_)|((refine idPick ?_); first|refine yB ?_|refine yC ?_|refine yD ?_|refine yE ?_|refine yF ?_|refine yG ?_|refine yH ?_|refine yI ?_|refine yJ ?_|refine yK ?_)|((refine idCond ?_); first|refine yL ?_|refine yM ?_|refine yN ?_|refine yO ?_|refine yP (fun hg=>?_) fun hg=>?_|refine yQ ?_|refine yR ?_|refine yS (fun hg=>?_) fun hg=>?_|refine yT ?_|refine yU ?_|refine yV (fun hg=>?_) fun hg=>?_|refine yW ?_|refine yX ?_|refine yY (fun hg=>?_) fun hg=>?_))
      | ((with_reducible refine idO ?_); (with_reducible refine oM_gen fun Kv hK=>?_); simp [go_sem, hk.cells]; (try simp (disch := omega) only [wrapI64, wrapU8, wrapU32, wrapU64]); (first|refine hK _ _ ?_|refine And.intro (by omega) (hK _ _ ?_)); clear hK; clear Kv)))
      exact k2 _ _ (hN (.inr (.inl hlen))) hk.below
end
end Go.Proofs
--G
namespace Go.Proofs
open Go Go.Sh Go.RowKit FdSpec TkSpec
set_option linter.unusedSimpArgs false
set_option linter.unusedVariables false
set_option maxRecDepth 10000
section
variable {K : Value → World → Prop} {w w0 w1 : World} {L : List (Addr × Value)}
theorem sz_spd (w : World) : (sizeOf 47).run Tryz.prog w = .ok 2 w := by kernel_rfl
theorem sz_ints (w : World) : (sizeOf 22).run Tryz.prog w = .ok 1 w := by kernel_rfl
theorem al_spd (w : World) : (Instr.alloc 47 true (.tuple #[])).run Tryz.prog w = .ok (.pointer (some ⟨w.heap.size, 0, none⟩)) (w.alloc (.cells [.int .i64 0, .slice none 0 0].toArray 47)) := by kernel_rfl
theorem spd_one (x : Spd) (ad : Option Addr) (n c : Nat) : ∀ u ∈ spdC x (.slice ad n c), u.oneCell' = true := by
  intro u hu
  simp only [spdC, List.mem_cons, List.not_mem_nil, or_false] at hu
  rcases hu with rfl | rfl <;> rfl
theorem store_spd {K : Value → World → Prop} {T' : TypeId} {g : Nat} (x : Spd) (ad : Option Addr) (m c : Nat) (hk : KnM w0 L g 2 w)
    (k : ∀ W, KnM w0 L g 2 W → cellsAre W (cellsOf [] g 0 (spdC x (.slice ad m c))) → w.grownBy W (some g) → K undef W) : oM Tryz.prog (.store 47 (.tmp 0) (.tmp 1)) T' [.pointer (some ⟨g, 0, none⟩), spdV x (.slice ad m c)] K w := by
  obtain ⟨W, e, hg, hm, hc⟩ := store_run (P := Tryz.prog) (W := w) sz_spd (x := spdV x (.slice ad m c)) rfl rfl (spd_one x ad m c) hk.mine
  rw [oM_store, e]
  exact k W ⟨hk.kn.wrote hg hk.base hk.off, hm, hk.base, hk.off⟩ hc hg
theorem store_row {P : Program} {T T0 : TypeId} {g o n : Nat} {cur : Array Value} {x : Value} {xs : List Value} (hT : ∀ w, (sizeOf T).run P w = .ok n w) (hx : x.cells = xs.toArray) (hl : xs.length = n) (h1 : ∀ u ∈ xs, u.oneCell' = true) (hg : w.heap[g]? = some (.cells cur T0 (0, 0))) (hfit : o + n ≤ cur.size) :
    (Instr.storeAt T (.pointer (some ⟨g, o, none⟩)) x).run P w = .ok () (w.setRow g (cur.toList.take o ++ xs ++ cur.toList.drop (o + xs.length)).toArray) := by
  have hst := run_storeCells_at P g o T0 xs 0 cur w hg (by omega) h1
  rw [Nat.add_zero] at hst
  unfold Instr.storeAt storeVar
  have e2 : x.cells.toList = xs := by rw [hx]
  have e3 : x.cells.size = n := by rw [hx]; simpa using hl
  rw [e2, e3]
  rw [List.append_assoc] at hst ⊢
  simp [hT, go_sem]
  exact hst
/-- a local spend: its block -/
theorem local_spd {K : Value → World → Prop} {T' T2 : TypeId} {g n : Nat} (x : Spd) (hk : KnM w0 L g n w)
    (k : ∀ b W, KnM w0 L g n W → Below w.heap.size w W → w.heap.size ≤ b → W.heap[b]? = some (.cells #[.int .i64 x.dare, .slice none 0 0] 47 (0, 0)) → K (.pointer (some ⟨b, 0, none⟩)) W) :
    oM Tryz.prog (.alloc 47) T' [] (fun v w => oM Tryz.prog (.store 47 (.tmp 0) (.tmp 1)) T2 [v, spdV x (.slice none 0 0)] (fun _ w => K v w) w) w := by
  rw [oM_alloc, al_spd, rM_ok]
  have hb := (Below.refl w.heap.size w).alloc (Nat.le_refl _) (.cells [Value.int .i64 0, .slice none 0 0].toArray 47)
  have hg0 : (w.alloc (.cells [Value.int .i64 0, .slice none 0 0].toArray 47)).heap[w.heap.size]? = some (.cells [Value.int .i64 0, .slice none 0 0].toArray 47 (0, 0)) := Array.getElem?_push_size
  generalize w.alloc (.cells [Value.int .i64 0, .slice none 0 0].toArray 47) = W at *
  have hrun := store_row (P := Tryz.prog) (w := W) (o := 0) sz_spd (x := spdV x (.slice none 0 0)) rfl rfl (spd_one x none 0 0) hg0 (by simp)
  have e1 : ([Value.int .i64 0, .slice none 0 0].toArray.toList.take 0 ++ spdC x (.slice none 0 0) ++ [Value.int .i64 0, .slice none 0 0].toArray.toList.drop (0 + (spdC x (.slice none 0 0)).length)).toArray = #[.int .i64 x.dare, .slice none 0 0] := by simp
  rw [e1] at hrun
  have hh := setRow_heap W w.heap.size _ #[Value.int .i64 x.dare, .slice none 0 0] 47 (0, 0) hg0
  rw [oM_store, hrun]
  have hb2 : Below w.heap.size w (W.setRow w.heap.size #[Value.int .i64 x.dare, .slice none 0 0]) := hb.grown (grown_setRow _ _ _) hb.size (fun k hk => by cases hk; exact Nat.le_refl _)
  exact k _ _ (hk.next hb2) hb2 (Nat.le_refl _) hh
/-- the second cell of a block of two is written -/
theorem store_second {K : Value → World → Prop} {T' : TypeId} {g : Nat} {ad : Option Addr} {m c : Nat} {a b : Value} (hg : w.heap[g]? = some (.cells #[a, b] 47 (0, 0)))
    (k : ∀ W, w.grownBy W (some g) → W.heap[g]? = some (.cells #[a, .slice ad m c] 47 (0, 0)) → K undef W) : oM Tryz.prog (.store 22 (.tmp 0) (.tmp 1)) T' [.pointer (some ⟨g, 1, none⟩), .slice ad m c] K w := by
  have hrun := store_row (P := Tryz.prog) (o := 1) sz_ints (x := .slice ad m c) rfl rfl (xs := [Value.slice ad m c]) (by intro u hu; simp at hu; subst hu; rfl) hg (by simp)
  have hh := setRow_heap w g _ #[a, .slice ad m c] 47 (0, 0) hg
  have e1 : (#[a, b].toList.take 1 ++ [Value.slice ad m c] ++ #[a, b].toList.drop (1 + [Value.slice ad m c].length)).toArray = #[a, .slice ad m c] := by simp
  rw [e1] at hrun
  rw [oM_store, hrun]
  exact k _ (grown_setRow _ _ _) hh
abbrev FrG (g : Nat) (w w' : World) : Prop := Fr (fun i => i = g) w w'
theorem FrG.next {g : Nat} {w' : World} (h : FrG g w w1) (hb : Below w1.heap.size w1 w') : FrG g w w' :=
  h.trans (S' := fun _ => False) ⟨hb.os, hb.tape, hb.output, hb.size, fun i hi _ => hb.block i hi⟩ (fun _ h => h.elim)
theorem FrG.below {g : Nat} {w' : World} (h0 : Below w.heap.size w w1) (h : FrG g w1 w') (hg : w.heap.size ≤ g) : Below w.heap.size w w' :=
  ⟨h.os.trans h0.os, h.tape.trans h0.tape, h.output.trans h0.output, Nat.le_trans h0.size h.size, fun i hi => (h.block i (Nat.lt_of_lt_of_le hi h0.size) (fun e => by omega)).trans (h0.block i hi)⟩
theorem cellsAre_fr {g : Nat} {w' : World} (hL : cellsAre w L) (h : FrG g w w') (hn : ∀ p ∈ L, p.1.block ≠ g) : cellsAre w' L :=
  cellsAre_keepBut hL hn fun a ha hna => World.cell?_of_block (w := w) (h.block _ ha hna)
theorem _root_.Go.Sh.KnM.fr {g n g' : Nat} {w' : World} (hk : KnM w0 L g n w) (h : FrG g' w w') (hoff : ∀ p ∈ L, p.1.block ≠ g') (hne : g ≠ g') (hb : w0.heap.size ≤ g') : KnM w0 L g n w' := by
  obtain ⟨cur, T, h1, h2⟩ := hk.mine
  exact ⟨⟨FrG.below hk.below h hb, cellsAre_fr hk.cells h hoff⟩, ⟨cur, T, by rw [h.block g (mine_lt hk.mine) hne]; exact h1, h2⟩, hk.base, hk.off⟩
theorem Ints.fr {g : Nat} {w' : World} {v : Value} {l : List Int} (hi : Ints w v l) (h : FrG g w w') (hne : ∀ i, Value.inBlock v = some i → i ≠ g) : Ints w' v l :=
  ⟨hi.row.keep h.size (fun i e hlt => h.block i hlt (hne i e)), hi.rng, hi.len⟩
def UsC (St : World → Prop) (j : Nat) (w' : World) : Prop := j ≤ 4 → St w'
theorem usGet {St : World → Prop} {n : Nat} {w' : World} (h : upto (UsC St) n w') (hn : n ≤ 4) : St w' := by
  obtain ⟨s, hs, hc⟩ := h
  exact hc (Nat.le_trans hs hn)
end
end Go.Proofs
--G
namespace Go.Proofs
open Go Go.Sh Go.RowKit FdSpec TkSpec
set_option linter.unusedSimpArgs false
set_option linter.unusedVariables false
set_option maxRecDepth 10000
section
variable {K : Value → World → Prop} {w w0 w1 : World} {L : List (Addr × Value)}
def ansL (s : Stp) (l : List Int) (b : Bld) (dare : Int) : List Int := ((expsM l).zip b.ys).map fun p => plusQ s p.2 (mulQ s dare [b.s, p.1])
theorem useM_no {s : Stp} {l : List Int} {b : Bld} {dare : Int} (h : (usableM s l).2 = false ∨ blindsM s b = false ∨ numsM s 1 [dare] = false) : useM s l b dare = (⟨0, []⟩, false) := by
  unfold useM
  rw [if_neg]
  rcases h with h | h | h <;> simp [h]
theorem useM_yes {s : Stp} {l : List Int} {b : Bld} {dare : Int} (h1 : (usableM s l).2 = true) (h2 : blindsM s b = true) (h3 : numsM s 1 [dare] = true) : useM s l b dare = (⟨dare, ansL s l b dare⟩, true) := by
  unfold useM
  rw [if_pos (by rw [h1, h2, h3]; rfl)]
  rfl
theorem usable_len {s : Stp} {l : List Int} (h : (usableM s l).2 = true) : l.length + 1 = s.bases.length ∧ validS s = true := by
  unfold usableM at h
  simp only [Bool.and_eq_true] at h
  have h := h.1
  unfold markM at h
  split at h
  · rename_i hc
    simp only [Bool.and_eq_true, decide_eq_true_eq] at hc
    exact ⟨hc.1.1.2, hc.1.1.1⟩
  · cases h
theorem blinds_len {s : Stp} {b : Bld} (h : blindsM s b = true) : b.ys.length = s.bases.length := by
  unfold blindsM at h
  simp only [Bool.and_eq_true, decide_eq_true_eq] at h
  exact h.1.2
def UsJ (al : List Int) (dare : Int) (g13 : Nat) (Wl : World) (vs : List Value) (w' : World) : Prop := FrG g13 Wl w' ∧ ∃ (v u ov : Value) (i : Nat), vs = [v, u, .int .i64 (i : Int)] ∧ i ≤ al.length ∧ OwnI w' Wl.heap.size ov (al.take i) ∧ w'.heap[g13]? = some (.cells #[.int .i64 dare, ov] 47 (0, 0))
theorem Use_ok (s : Stp) (b : Bld) (dare : Int) {v bv lv : Value} {l : List Int} (hd : I64 dare) (hs : SetR w s v) (hl : Ints w lv l) (hb : BldR w b bv)
    (k : ∀ w' ov, Below w.heap.size w w' → Ints w' ov (useM s l b dare).1.answers → K (.tuple #[spdV (useM s l b dare).1 ov, .bool (useM s l b dare).2]) w') : callM Tryz.prog 13 #[stpV s v, lv, bldV b bv, .int .i64 dare] K w := by
  apply sh_13_ok
  unfold sh_13
  obtain ⟨ad, c, rfl⟩ := hs.ints.isSlice
  have hys := hb.ys
  have hb0 := hb
  obtain ⟨yad, yc, rfl⟩ := hb.ys.isSlice
  have k2 : ∀ w' ov r, useM s l b dare = r → Below w.heap.size w w' → Ints w' ov r.1.answers → K (.tuple #[spdV r.1 ov, .bool r.2]) w' := fun w' ov r e hb hi => by
    rw [← e] at hi ⊢
    exact k w' ov hb hi
  clear k
  refine box_kn (cs := stpC s (.slice ad s.bases.length c)) rfl (.start w) fun b1 W hk hb1 hbb => ?_
  refine box_kn (cs := bldC b (.slice yad b.ys.length yc)) rfl hk fun b2 W2 hk hb2 hbb => ?_
  refine alloc_mine (n := 2) al_spd rfl hk fun g W2 hk hb2 hg => ?_
  clear hb1 hb2
  repeat (any_goals (first
  | (with_reducible first|refine pureM_in ?_|((refine idGd ?_); first|refine zA ?_|refine zB ?_|refine zC ?_|refine zD ?_|refine zE ?_|((refine idGdD ?_); first|refine zF ?_|refine zG ?_|refine zH (fun hg=>?_) fun hg=>?_|refine zI ?_|refine zJ ?_|refine zK (fun hg=>?_) fun hg=>?_)|((refine idGdN ?_); first|refine zL ?_|refine zM ?_|refine zN (fun hg=>?_) fun hg=>?_|refine zO ?_|refine zP ?_|refine zQ (fun hg=>?_) fun hg=>?_)|refine zR ?_|refine zS ?_|refine zT ?_|refine zU ?_|refine zV ?_|refine zW ?_|refine zX (fun hg=>?_) fun hg=>?_|refine zY ?_|refine zZ ?_|refine yA (fun hg=>?_) fun hg=>?_)|((refine idPick ?_); first|refine yB ?_|refine yC ?_|refine yD ?_|refine yE ?_|refine yF ?_|refine yG ?_|refine yH ?_|refine yI ?_|refine yJ ?_|refine yK ?_)|((refine idCond ?_); first|refine yL ?_|refine yM ?_|refine yN ?_|refine yO ?_|refine yP (fun hg=>?_) fun hg=>?_|refine yQ ?_|refine yR ?_|refine yS (fun hg=>?_) fun hg=>?_|refine yT ?_|refine yU ?_|refine yV (fun hg=>?_) fun hg=>?_|refine yW ?_|refine yX ?_|refine yY (fun hg=>?_) fun hg=>?_))
  | ((with_reducible refine idO ?_); (with_reducible refine oM_gen fun Kv hK=>?_); simp [go_sem, hk.cells]; (try simp (disch := omega) only [wrapI64, wrapU8, wrapU32, wrapU64]); (first|refine hK _ _ ?_|refine And.intro (by omega) (hK _ _ ?_)); clear hK; clear Kv)))
  refine usable_ok s (hs.next hk.below) (hl.next hk.below) (fun w2 h2 => ?_)
  have hk := hk.next h2
  clear h2
  have hno := useM_no (s := s) (l := l) (b := b) (dare := dare)
  cases hu : (usableM s l).2 with
  | false =>
    repeat (any_goals (first
    | ((with_reducible refine local_desk s ad s.bases.length c hk ?_); intro b7 W7 hk hb7 hg7)
    | (with_reducible first|refine pureM_in ?_|((refine idGd ?_); first|refine zA ?_|refine zB ?_|refine zC ?_|refine zD ?_|refine zE ?_|((refine idGdD ?_); first|refine zF ?_|refine zG ?_|refine zH (fun hg=>?_) fun hg=>?_|refine zI ?_|refine zJ ?_|refine zK (fun hg=>?_) fun hg=>?_)|((refine idGdN ?_); first|refine zL ?_|refine zM ?_|refine zN (fun hg=>?_) fun hg=>?_|refine zO ?_|refine zP ?_|refine zQ (fun hg=>?_) fun hg=>?_)|refine zR ?_|refine zS ?_|refine zT ?_|refine zU ?_|refine zV ?_|refine zW ?_|refine zX (fun hg=>?_) fun hg=>?_|refine zY ?_|refine zZ ?_|refine yA (fun hg=>?_) fun hg=>?_)|((refine idPick ?_); first|refine yB ?_|refine yC ?_|refine yD ?_|refine yE ?_|refine yF ?_|refine yG ?_|refine yH ?_|refine yI ?_|refine yJ ?_|refine yK ?_)|((refine idCond ?_); first|refine yL ?_|refine yM ?_|refine yN ?_|refine yO ?_|refine yP (fun hg=>?_) fun hg=>?_|refine yQ ?_|refine yR ?_|refine yS (fun hg=>?_) fun hg=>?_|refine yT ?_|refine yU ?_|refine yV (fun hg=>?_) fun hg=>?_|refine yW ?_|refine yX ?_|refine yY (fun hg=>?_) fun hg=>?_))
    | ((with_reducible refine idO ?_); (with_reducible refine oM_gen fun Kv hK=>?_); simp [go_sem, hk.cells]; (try simp (disch := omega) only [wrapI64, wrapU8, wrapU32, wrapU64]); (first|refine hK _ _ ?_|refine And.intro (by omega) (hK _ _ ?_)); clear hK; clear Kv)))
    exact store_spd ⟨0, []⟩ none 0 0 hk (fun W3 hk hc _ => ⟨_, by simp [go_sem, hc], k2 _ _ _ (hno (.inl hu)) hk.below (Ints.nil _)⟩)
  | true =>
    obtain ⟨hll, hv⟩ := usable_len hu
    have hv7 := validS_len hv
    repeat (any_goals (first
    | ((with_reducible refine local_desk s ad s.bases.length c hk ?_); intro b7 W7 hk hb7 hg7)
    | (with_reducible first|refine pureM_in ?_|((refine idGd ?_); first|refine zA ?_|refine zB ?_|refine zC ?_|refine zD ?_|refine zE ?_|((refine idGdD ?_); first|refine zF ?_|refine zG ?_|refine zH (fun hg=>?_) fun hg=>?_|refine zI ?_|refine zJ ?_|refine zK (fun hg=>?_) fun hg=>?_)|((refine idGdN ?_); first|refine zL ?_|refine zM ?_|refine zN (fun hg=>?_) fun hg=>?_|refine zO ?_|refine zP ?_|refine zQ (fun hg=>?_) fun hg=>?_)|refine zR ?_|refine zS ?_|refine zT ?_|refine zU ?_|refine zV ?_|refine zW ?_|refine zX (fun hg=>?_) fun hg=>?_|refine zY ?_|refine zZ ?_|refine yA (fun hg=>?_) fun hg=>?_)|((refine idPick ?_); first|refine yB ?_|refine yC ?_|refine yD ?_|refine yE ?_|refine yF ?_|refine yG ?_|refine yH ?_|refine yI ?_|refine yJ ?_|refine yK ?_)|((refine idCond ?_); first|refine yL ?_|refine yM ?_|refine yN ?_|refine yO ?_|refine yP (fun hg=>?_) fun hg=>?_|refine yQ ?_|refine yR ?_|refine yS (fun hg=>?_) fun hg=>?_|refine yT ?_|refine yU ?_|refine yV (fun hg=>?_) fun hg=>?_|refine yW ?_|refine yX ?_|refine yY (fun hg=>?_) fun hg=>?_))
    | ((with_reducible refine idO ?_); (with_reducible refine oM_gen fun Kv hK=>?_); simp [go_sem, hk.cells]; (try simp (disch := omega) only [wrapI64, wrapU8, wrapU32, wrapU64]); (first|refine hK _ _ ?_|refine And.intro (by omega) (hK _ _ ?_)); clear hK; clear Kv)))
    refine blinds_ok s b (hs.next hk.below) (hb0.next hk.below) (fun w3 h3 => ?_)
    have hk := hk.next h3
    cases hbl : blindsM s b with
    | false =>
      repeat (any_goals (first
      | (with_reducible first|refine pureM_in ?_|((refine idGd ?_); first|refine zA ?_|refine zB ?_|refine zC ?_|refine zD ?_|refine zE ?_|((refine idGdD ?_); first|refine zF ?_|refine zG ?_|refine zH (fun hg=>?_) fun hg=>?_|refine zI ?_|refine zJ ?_|refine zK (fun hg=>?_) fun hg=>?_)|((refine idGdN ?_); first|refine zL ?_|refine zM ?_|refine zN (fun hg=>?_) fun hg=>?_|refine zO ?_|refine zP ?_|refine zQ (fun hg=>?_) fun hg=>?_)|refine zR ?_|refine zS ?_|refine zT ?_|refine zU ?_|refine zV ?_|refine zW ?_|refine zX (fun hg=>?_) fun hg=>?_|refine zY ?_|refine zZ ?_|refine yA (fun hg=>?_) fun hg=>?_)|((refine idPick ?_); first|refine yB ?_|refine yC ?_|refine yD ?_|refine yE ?_|refine yF ?_|refine yG ?_|refine yH ?_|refine yI ?_|refine yJ ?_|refine yK ?_)|((refine idCond ?_); first|refine yL ?_|refine yM ?_|refine yN ?_|refine yO ?_|refine yP (fun hg=>?_) fun hg=>?_|refine yQ ?_|refine yR ?_|refine yS (fun hg=>?_) fun hg=>?_|refine yT ?_|refine yU ?_|refine yV (fun hg=>?_) fun hg=>?_|refine yW ?_|refine yX ?_|refine yY (fun hg=>?_) fun hg=>?_))
      | ((with_reducible refine idO ?_); (with_reducible refine oM_gen fun Kv hK=>?_); simp [go_sem, hk.cells]; (try simp (disch := omega) only [wrapI64, wrapU8, wrapU32, wrapU64]); (first|refine hK _ _ ?_|refine And.intro (by omega) (hK _ _ ?_)); clear hK; clear Kv)))
      exact store_spd ⟨0, []⟩ none 0 0 hk (fun W3 hk hc _ => ⟨_, by simp [go_sem, hc], k2 _ _ _ (hno (.inr (.inl hbl))) hk.below (Ints.nil _)⟩)
    | true =>
      have hyl := blinds_len hbl
      repeat (any_goals (first
      | ((with_reducible refine mk1 dare hd ?_); intro v8 W8 hb8 hi)
      | (with_reducible first|refine pureM_in ?_|((refine idGd ?_); first|refine zA ?_|refine zB ?_|refine zC ?_|refine zD ?_|refine zE ?_|((refine idGdD ?_); first|refine zF ?_|refine zG ?_|refine zH (fun hg=>?_) fun hg=>?_|refine zI ?_|refine zJ ?_|refine zK (fun hg=>?_) fun hg=>?_)|((refine idGdN ?_); first|refine zL ?_|refine zM ?_|refine zN (fun hg=>?_) fun hg=>?_|refine zO ?_|refine zP ?_|refine zQ (fun hg=>?_) fun hg=>?_)|refine zR ?_|refine zS ?_|refine zT ?_|refine zU ?_|refine zV ?_|refine zW ?_|refine zX (fun hg=>?_) fun hg=>?_|refine zY ?_|refine zZ ?_|refine yA (fun hg=>?_) fun hg=>?_)|((refine idPick ?_); first|refine yB ?_|refine yC ?_|refine yD ?_|refine yE ?_|refine yF ?_|refine yG ?_|refine yH ?_|refine yI ?_|refine yJ ?_|refine yK ?_)|((refine idCond ?_); first|refine yL ?_|refine yM ?_|refine yN ?_|refine yO ?_|refine yP (fun hg=>?_) fun hg=>?_|refine yQ ?_|refine yR ?_|refine yS (fun hg=>?_) fun hg=>?_|refine yT ?_|refine yU ?_|refine yV (fun hg=>?_) fun hg=>?_|refine yW ?_|refine yX ?_|refine yY (fun hg=>?_) fun hg=>?_))
      | ((with_reducible refine idO ?_); (with_reducible refine oM_gen fun Kv hK=>?_); simp [go_sem, hk.cells]; (try simp (disch := omega) only [wrapI64, wrapU8, wrapU32, wrapU64]); (first|refine hK _ _ ?_|refine And.intro (by omega) (hK _ _ ?_)); clear hK; clear Kv)))
      have hk := hk.next hb8
      refine nums_ok s 1 (hs.next hk.below) hi (fun w4 h4 => ?_)
      have hk := hk.next h4
      cases hn : numsM s 1 [dare] with
      | false =>
        repeat (any_goals (first
        | (with_reducible first|refine pureM_in ?_|((refine idGd ?_); first|refine zA ?_|refine zB ?_|refine zC ?_|refine zD ?_|refine zE ?_|((refine idGdD ?_); first|refine zF ?_|refine zG ?_|refine zH (fun hg=>?_) fun hg=>?_|refine zI ?_|refine zJ ?_|refine zK (fun hg=>?_) fun hg=>?_)|((refine idGdN ?_); first|refine zL ?_|refine zM ?_|refine zN (fun hg=>?_) fun hg=>?_|refine zO ?_|refine zP ?_|refine zQ (fun hg=>?_) fun hg=>?_)|refine zR ?_|refine zS ?_|refine zT ?_|refine zU ?_|refine zV ?_|refine zW ?_|refine zX (fun hg=>?_) fun hg=>?_|refine zY ?_|refine zZ ?_|refine yA (fun hg=>?_) fun hg=>?_)|((refine idPick ?_); first|refine yB ?_|refine yC ?_|refine yD ?_|refine yE ?_|refine yF ?_|refine yG ?_|refine yH ?_|refine yI ?_|refine yJ ?_|refine yK ?_)|((refine idCond ?_); first|refine yL ?_|refine yM ?_|refine yN ?_|refine yO ?_|refine yP (fun hg=>?_) fun hg=>?_|refine yQ ?_|refine yR ?_|refine yS (fun hg=>?_) fun hg=>?_|refine yT ?_|refine yU ?_|refine yV (fun hg=>?_) fun hg=>?_|refine yW ?_|refine yX ?_|refine yY (fun hg=>?_) fun hg=>?_))
        | ((with_reducible refine idO ?_); (with_reducible refine oM_gen fun Kv hK=>?_); simp [go_sem, hk.cells]; (try simp (disch := omega) only [wrapI64, wrapU8, wrapU32, wrapU64]); (first|refine hK _ _ ?_|refine And.intro (by omega) (hK _ _ ?_)); clear hK; clear Kv)))
        exact store_spd ⟨0, []⟩ none 0 0 hk (fun W3 hk hc _ => ⟨_, by simp [go_sem, hc], k2 _ _ _ (hno (.inr (.inr hn))) hk.below (Ints.nil _)⟩)
      | true =>
        have ey := useM_yes hu hbl hn
        have hgW : g < w4.heap.size := mine_lt hk.mine
        have hoffL := cells_lt hk.cells
        repeat (any_goals (first
        | ((with_reducible refine local_spd ⟨dare, []⟩ hk ?_); intro g13 W9 hk hb9 hg13 hh13)
        | (with_reducible first|refine pureM_in ?_|((refine idGd ?_); first|refine zA ?_|refine zB ?_|refine zC ?_|refine zD ?_|refine zE ?_|((refine idGdD ?_); first|refine zF ?_|refine zG ?_|refine zH (fun hg=>?_) fun hg=>?_|refine zI ?_|refine zJ ?_|refine zK (fun hg=>?_) fun hg=>?_)|((refine idGdN ?_); first|refine zL ?_|refine zM ?_|refine zN (fun hg=>?_) fun hg=>?_|refine zO ?_|refine zP ?_|refine zQ (fun hg=>?_) fun hg=>?_)|refine zR ?_|refine zS ?_|refine zT ?_|refine zU ?_|refine zV ?_|refine zW ?_|refine zX (fun hg=>?_) fun hg=>?_|refine zY ?_|refine zZ ?_|refine yA (fun hg=>?_) fun hg=>?_)|((refine idPick ?_); first|refine yB ?_|refine yC ?_|refine yD ?_|refine yE ?_|refine yF ?_|refine yG ?_|refine yH ?_|refine yI ?_|refine yJ ?_|refine yK ?_)|((refine idCond ?_); first|refine yL ?_|refine yM ?_|refine yN ?_|refine yO ?_|refine yP (fun hg=>?_) fun hg=>?_|refine yQ ?_|refine yR ?_|refine yS (fun hg=>?_) fun hg=>?_|refine yT ?_|refine yU ?_|refine yV (fun hg=>?_) fun hg=>?_|refine yW ?_|refine yX ?_|refine yY (fun hg=>?_) fun hg=>?_))
        | ((with_reducible refine idO ?_); (with_reducible refine oM_gen fun Kv hK=>?_); simp [go_sem, hk.cells]; (try simp (disch := omega) only [wrapI64, wrapU8, wrapU32, wrapU64]); (first|refine hK _ _ ?_|refine And.intro (by omega) (hK _ _ ?_)); clear hK; clear Kv)))
        refine exps_ok (hl.next hk.below) (by omega) (by omega) (fun ev w5 he h5 hff => ?_)
        have hg13W := (Array.getElem?_eq_some_iff.1 hh13).1
        have hh13 : w5.heap[g13]? = some (.cells #[.int .i64 dare, .slice none 0 0] 47 (0, 0)) := by rw [h5.block g13 hg13W]; exact hh13
        have hk := hk.next h5
        have hel : (expsM l).length = l.length + 1 := rfl
        have hal : (ansL s l b dare).length = l.length + 1 := by simp [ansL, hel]; omega
        have hat : ∀ (i : Nat) (h1 : i < (expsM l).length) (h2 : i < b.ys.length), (ansL s l b dare)[i]? = some (plusQ s b.ys[i] (mulQ s dare [b.s, (expsM l)[i]])) := fun i h1 h2 => by
          simp [ansL, h1, h2, List.getElem?_zip_eq_some]
          exact ⟨_, _, ⟨rfl, rfl⟩, rfl⟩
        have hrng : ∀ n ∈ ansL s l b dare, I64 n := by
          intro n hn
          obtain ⟨m, _, rfl⟩ := List.mem_map.1 hn
          exact addM_I64 _ _ _
        generalize ansL s l b dare = al at *
        obtain ⟨ead, ec, rfl⟩ := he.isSlice
        have hs5 := h5.size
        have hs9 := hb9.size
        have hing : ∀ i, Value.inBlock (.slice ead (expsM l).length ec) = some i → i ≠ g13 := fun i hi => by
          have := hff i hi
          omega
        repeat (any_goals (first
        | (with_reducible first|refine pureM_in ?_|((refine idGd ?_); first|refine zA ?_|refine zB ?_|refine zC ?_|refine zD ?_|refine zE ?_|((refine idGdD ?_); first|refine zF ?_|refine zG ?_|refine zH (fun hg=>?_) fun hg=>?_|refine zI ?_|refine zJ ?_|refine zK (fun hg=>?_) fun hg=>?_)|((refine idGdN ?_); first|refine zL ?_|refine zM ?_|refine zN (fun hg=>?_) fun hg=>?_|refine zO ?_|refine zP ?_|refine zQ (fun hg=>?_) fun hg=>?_)|refine zR ?_|refine zS ?_|refine zT ?_|refine zU ?_|refine zV ?_|refine zW ?_|refine zX (fun hg=>?_) fun hg=>?_|refine zY ?_|refine zZ ?_|refine yA (fun hg=>?_) fun hg=>?_)|((refine idPick ?_); first|refine yB ?_|refine yC ?_|refine yD ?_|refine yE ?_|refine yF ?_|refine yG ?_|refine yH ?_|refine yI ?_|refine yJ ?_|refine yK ?_)|((refine idCond ?_); first|refine yL ?_|refine yM ?_|refine yN ?_|refine yO ?_|refine yP (fun hg=>?_) fun hg=>?_|refine yQ ?_|refine yR ?_|refine yS (fun hg=>?_) fun hg=>?_|refine yT ?_|refine yU ?_|refine yV (fun hg=>?_) fun hg=>?_|refine yW ?_|refine yX ?_|refine yY (fun hg=>?_) fun hg=>?_))
        | ((with_reducible refine idO ?_); (with_reducible refine oM_gen fun Kv hK=>?_); simp [go_sem]; (try simp (disch := omega) only [wrapI64, wrapU8, wrapU32, wrapU64]); (first|refine hK _ _ ?_|refine And.intro (by omega) (hK _ _ ?_)); clear hK; clear Kv)))
        refine ⟨UsJ al dare g13 w5, vsMu (expsM l).length, ⟨Fr.refl _ _, _, _, .slice none 0 0, 0, rfl, by omega, World.ownsRow_nil _ _ _ _, hh13⟩, ?_⟩
        have hk0 := hk
        have hgne : g ≠ g13 := by omega
        have hoff13 : ∀ p ∈ cellsOf (cellsOf (cellsOf [] b1 0 (stpC s (.slice ad s.bases.length c))) b2 0 (bldC b (.slice yad b.ys.length yc))) b7 0 (stpC s (.slice ad s.bases.length c)), p.1.block ≠ g13 := fun p hp => by have := hoffL p hp; omega
        have hw13 : w.heap.size ≤ g13 := Nat.le_trans hk0.base (by omega)
        rintro _ _ w6 ⟨h6, u1, u2, ov, i, rfl, hi, ho, hh⟩
        have hk := hk0.fr h6 hoff13 hgne hw13
        by_cases hin : i = (expsM l).length
        · rw [List.take_of_length_le (by omega)] at ho
          have hints := ho.ints hrng (by omega)
          obtain ⟨g', cap, cur, rfl, hlt, hB, _, _, _, hcell⟩ := owns_cells ho (by omega)
          have c0 : w6.cell? ⟨g13, 0, none⟩ = some (.int .i64 dare) := by rw [cell_of_block hh]; rfl
          have c1 : w6.cell? ⟨g13, 1, none⟩ = some (.slice (some ⟨g', 0, none⟩) al.length cap) := by rw [cell_of_block hh]; rfl
          repeat (any_goals (first
          | (with_reducible first|refine pureM_in ?_|((refine idGd ?_); first|refine zA ?_|refine zB ?_|refine zC ?_|refine zD ?_|refine zE ?_|((refine idGdD ?_); first|refine zF ?_|refine zG ?_|refine zH (fun hg=>?_) fun hg=>?_|refine zI ?_|refine zJ ?_|refine zK (fun hg=>?_) fun hg=>?_)|((refine idGdN ?_); first|refine zL ?_|refine zM ?_|refine zN (fun hg=>?_) fun hg=>?_|refine zO ?_|refine zP ?_|refine zQ (fun hg=>?_) fun hg=>?_)|refine zR ?_|refine zS ?_|refine zT ?_|refine zU ?_|refine zV ?_|refine zW ?_|refine zX (fun hg=>?_) fun hg=>?_|refine zY ?_|refine zZ ?_|refine yA (fun hg=>?_) fun hg=>?_)|((refine idPick ?_); first|refine yB ?_|refine yC ?_|refine yD ?_|refine yE ?_|refine yF ?_|refine yG ?_|refine yH ?_|refine yI ?_|refine yJ ?_|refine yK ?_)|((refine idCond ?_); first|refine yL ?_|refine yM ?_|refine yN ?_|refine yO ?_|refine yP (fun hg=>?_) fun hg=>?_|refine yQ ?_|refine yR ?_|refine yS (fun hg=>?_) fun hg=>?_|refine yT ?_|refine yU ?_|refine yV (fun hg=>?_) fun hg=>?_|refine yW ?_|refine yX ?_|refine yY (fun hg=>?_) fun hg=>?_))
          | ((with_reducible refine idO ?_); (with_reducible refine oM_gen fun Kv hK=>?_); simp [go_sem, c0, c1]; (try simp (disch := omega) only [wrapI64, wrapU8, wrapU32, wrapU64]); (first|refine hK _ _ ?_|refine And.intro (by omega) (hK _ _ ?_)); clear hK; clear Kv)))
          refine store_spd ⟨dare, al⟩ _ _ _ hk (fun W3 hk hc hgr => ⟨_, by simp [go_sem, hc], k2 _ _ _ ey hk.below ⟨hints.row.keep hgr.size (fun i hi hlt => hgr.block i hlt ?_), hrng, by show al.length ≤ _; omega⟩⟩)
          cases hi
          intro e
          have e2 : g' = g := Option.some.inj e
          omega
        · have hev := Ints.fr he h6 hing
          have hed := FrG.below hk0.below h6 hw13
          obtain ⟨b8, o8, rfl, hb8', ca, ra, _⟩ := hev.at (i := i) (by omega)
          obtain ⟨b9, o9, rfl, hb9', cb, rb, _⟩ := hys.at (i := i) (by omega)
          have c1 : ∀ w', Below w6.heap.size w6 w' → w'.heap[g13]? = some (.cells #[.int .i64 dare, ov] 47 (0, 0)) := fun w' hw => by rw [hw.block g13 (Array.getElem?_eq_some_iff.1 hh).1]; exact hh
          repeat (any_goals (first
          | (with_reducible first|refine pureM_in ?_|((refine idGd ?_); first|refine zA ?_|refine zB ?_|refine zC ?_|refine zD ?_|refine zE ?_|((refine idGdD ?_); first|refine zF ?_|refine zG ?_|refine zH (fun hg=>?_) fun hg=>?_|refine zI ?_|refine zJ ?_|refine zK (fun hg=>?_) fun hg=>?_)|((refine idGdN ?_); first|refine zL ?_|refine zM ?_|refine zN (fun hg=>?_) fun hg=>?_|refine zO ?_|refine zP ?_|refine zQ (fun hg=>?_) fun hg=>?_)|refine zR ?_|refine zS ?_|refine zT ?_|refine zU ?_|refine zV ?_|refine zW ?_|refine zX (fun hg=>?_) fun hg=>?_|refine zY ?_|refine zZ ?_|refine yA (fun hg=>?_) fun hg=>?_)|((refine idPick ?_); first|refine yB ?_|refine yC ?_|refine yD ?_|refine yE ?_|refine yF ?_|refine yG ?_|refine yH ?_|refine yI ?_|refine yJ ?_|refine yK ?_)|((refine idCond ?_); first|refine yL ?_|refine yM ?_|refine yN ?_|refine yO ?_|refine yP (fun hg=>?_) fun hg=>?_|refine yQ ?_|refine yR ?_|refine yS (fun hg=>?_) fun hg=>?_|refine yT ?_|refine yU ?_|refine yV (fun hg=>?_) fun hg=>?_|refine yW ?_|refine yX ?_|refine yY (fun hg=>?_) fun hg=>?_))
          | ((with_reducible refine idO ?_); (with_reducible refine oM_gen fun Kv hK=>?_); simp [go_sem, ca _ (Below.refl _ _)]; (try simp (disch := omega) only [wrapI64, wrapU8, wrapU32, wrapU64]); (first|refine hK _ _ ?_|refine And.intro (by omega) (hK _ _ ?_)); clear hK; clear Kv)))
          refine ⟨UsC (fun w' => KnM w _ g 2 w' ∧ Below w.heap.size w w' ∧ w'.cell? ⟨g13, 1, none⟩ = some ov), fun _ => ⟨hk.drew, hk.drew.below, by rw [cell_of_block (c1 _ .drawn)]; rfl⟩, ?_⟩
          have hk := hk.drew
          have ho := ho.keep (Below.drawn (w := w6))
          have h7 : Below w6.heap.size w6 { w6 with drawn := w6.drawn + 1 } := .drawn
          have hfr := FrG.next h6 h7
          have hh1 := c1 _ h7
          repeat (any_goals (first
          | ((with_reducible refine mk2 b.s _ hb.s ra ?_); intro v10 w10 h10 hi10)
          | (with_reducible first|refine pureM_in ?_|refine pureQ_in ?_|refine pureH_in ?_|((refine idGdQ ?_); refine gdQ_conv fun _=>?_)|((refine idGdH ?_); refine gdH_conv fun _=>?_)|refine And.intro (Eq.refl (α := World) _) ?_|refine forall_one ?_|((refine idGd ?_); first|refine zA ?_|refine zB ?_|refine zC ?_|refine zD ?_|refine zE ?_|((refine idGdD ?_); first|refine zF ?_|refine zG ?_|refine zH (fun hg=>?_) fun hg=>?_|refine zI ?_|refine zJ ?_|refine zK (fun hg=>?_) fun hg=>?_)|((refine idGdN ?_); first|refine zL ?_|refine zM ?_|refine zN (fun hg=>?_) fun hg=>?_|refine zO ?_|refine zP ?_|refine zQ (fun hg=>?_) fun hg=>?_)|refine zR ?_|refine zS ?_|refine zT ?_|refine zU ?_|refine zV ?_|refine zW ?_|refine zX (fun hg=>?_) fun hg=>?_|refine zY ?_|refine zZ ?_|refine yA (fun hg=>?_) fun hg=>?_)|((refine idPick ?_); first|refine yB ?_|refine yC ?_|refine yD ?_|refine yE ?_|refine yF ?_|refine yG ?_|refine yH ?_|refine yI ?_|refine yJ ?_|refine yK ?_)|((refine idCond ?_); first|refine yL ?_|refine yM ?_|refine yN ?_|refine yO ?_|refine yP (fun hg=>?_) fun hg=>?_|refine yQ ?_|refine yR ?_|refine yS (fun hg=>?_) fun hg=>?_|refine yT ?_|refine yU ?_|refine yV (fun hg=>?_) fun hg=>?_|refine yW ?_|refine yX ?_|refine yY (fun hg=>?_) fun hg=>?_))
          | ((with_reducible refine idOQ ?_); first|(with_reducible first|refine wA ?_|refine wB ?_|refine wC ?_|refine wD ?_|refine wE ?_|refine wF ?_|refine oQ_nil ?_)|((with_reducible refine oQ_one ?_ ?_); exact ⟨_, rfl⟩)|(with_reducible refine oQ_of ⟨_, rfl⟩ (fun W0 hW0 => by (refine oM_gen (fun Kv hK => ?_)); simp [go_sem, (usGet hW0 (by omega)).1.cells, (usGet hW0 (by omega)).2.2, cb _ (usGet hW0 (by omega)).2.1]; (first | exact hK _ _ ⟨rfl, rfl⟩ | exact ⟨by omega, hK _ _ ⟨rfl, rfl⟩⟩)) ?_))
          | ((with_reducible refine idOH ?_); first|(with_reducible first|refine vA ?_|refine vB ?_|refine vC ?_|refine vD ?_|refine vE ?_|refine vF ?_|refine oH_nil ?_)|(with_reducible refine oH_of ⟨_, rfl⟩ (fun W0 hW0 => by (refine oM_gen (fun Kv hK => ?_)); simp [go_sem, (usGet hW0 (by omega)).1.cells, (usGet hW0 (by omega)).2.2, cb _ (usGet hW0 (by omega)).2.1]; (first | exact hK _ _ ⟨rfl, rfl⟩ | exact ⟨by omega, hK _ _ ⟨rfl, rfl⟩⟩)) ?_))
          | ((with_reducible refine idO ?_); (with_reducible refine oM_gen fun Kv hK=>?_); simp [go_sem]; (try simp (disch := omega) only [wrapI64, wrapU8, wrapU32, wrapU64]); (first|refine hK _ _ ?_|refine And.intro (by omega) (hK _ _ ?_)); clear hK; clear Kv)))
          have hk := hk.next h10
          have hh1 : w10.heap[g13]? = _ := (h10.block g13 (Array.getElem?_eq_some_iff.1 hh1).1).trans hh1
          have ho := ho.keep h10
          have hfr := hfr.next h10
          refine ⟨fun _ => ⟨hk, hk.below, by rw [cell_of_block hh1]; rfl⟩, mul_ok s _ (hs.next hk.below) hi10 (fun w11 h11 => ?_)⟩
          have hk := hk.next h11
          have hh1 : w11.heap[g13]? = _ := (h11.block g13 (Array.getElem?_eq_some_iff.1 hh1).1).trans hh1
          have ho := ho.keep h11
          have hfr := hfr.next h11
          refine ⟨fun _ => ⟨hk, hk.below, by rw [cell_of_block hh1]; rfl⟩, plus_ok s _ _ (hs.next hk.below) (fun w12 h12 => ?_)⟩
          have hk := hk.next h12
          have hh1 : w12.heap[g13]? = _ := (h12.block g13 (Array.getElem?_eq_some_iff.1 hh1).1).trans hh1
          have ho := ho.keep h12
          have hfr := hfr.next h12
          refine ⟨fun _ => ⟨hk, hk.below, by rw [cell_of_block hh1]; rfl⟩, mk1 _ (addM_I64 _ _ _) (fun v13 w13 h13 hi13 => ?_)⟩
          have hk := hk.next h13
          have hh1 : w13.heap[g13]? = _ := (h13.block g13 (Array.getElem?_eq_some_iff.1 hh1).1).trans hh1
          have ho := ho.keep h13
          have hfr := hfr.next h13
          refine ⟨fun _ => ⟨hk, hk.below, by rw [cell_of_block hh1]; rfl⟩, append1 ho hfr.size hi13 (by simp; omega) (fun v14 w14 ho h14 => ?_)⟩
          have hg5 : g13 < w5.heap.size := by omega
          have hh1 : w14.heap[g13]? = _ := (h14.block g13 hg5).trans hh1
          have hfr : FrG g13 w5 w14 := hfr.trans (S' := fun i => w5.heap.size ≤ i) ⟨h14.os, h14.tape, h14.output, h14.size, fun i hi hn => h14.block i (by omega)⟩ (fun i h => .inr h)
          refine ⟨fun h => absurd h (by omega), ?_⟩
          have hli : ((al.take i) ++ [plusQ s b.ys[i] (mulQ s dare [b.s, (expsM l)[i]])]) = al.take (i + 1) := by
            rw [List.take_add_one, hat i (by omega) (by omega)]
            rfl
          rw [hli] at ho
          obtain ⟨oad, oc, hov⟩ := owns_len ho
          subst hov
          repeat (any_goals (first
          | (with_reducible first|refine pureM_in ?_|((refine idGd ?_); first|refine zA ?_|refine zB ?_|refine zC ?_|refine zD ?_|refine zE ?_|((refine idGdD ?_); first|refine zF ?_|refine zG ?_|refine zH (fun hg=>?_) fun hg=>?_|refine zI ?_|refine zJ ?_|refine zK (fun hg=>?_) fun hg=>?_)|((refine idGdN ?_); first|refine zL ?_|refine zM ?_|refine zN (fun hg=>?_) fun hg=>?_|refine zO ?_|refine zP ?_|refine zQ (fun hg=>?_) fun hg=>?_)|refine zR ?_|refine zS ?_|refine zT ?_|refine zU ?_|refine zV ?_|refine zW ?_|refine zX (fun hg=>?_) fun hg=>?_|refine zY ?_|refine zZ ?_|refine yA (fun hg=>?_) fun hg=>?_)|((refine idPick ?_); first|refine yB ?_|refine yC ?_|refine yD ?_|refine yE ?_|refine yF ?_|refine yG ?_|refine yH ?_|refine yI ?_|refine yJ ?_|refine yK ?_)|((refine idCond ?_); first|refine yL ?_|refine yM ?_|refine yN ?_|refine yO ?_|refine yP (fun hg=>?_) fun hg=>?_|refine yQ ?_|refine yR ?_|refine yS (fun hg=>?_) fun hg=>?_|refine yT ?_|refine yU ?_|refine yV (fun hg=>?_) fun hg=>?_|refine yW ?_|refine yX ?_|refine yY (fun hg=>?_) fun hg=>?_))
          | ((with_reducible refine idO ?_); (with_reducible refine oM_gen fun Kv hK=>?_); simp [go_sem]; (try simp (disch := omega) only [wrapI64, wrapU8, wrapU32, wrapU64]); (first|refine hK _ _ ?_|refine And.intro (by omega) (hK _ _ ?_)); clear hK; clear Kv)))
          refine ⟨fun h => absurd h (by omega), store_second hh1 (fun w15 hgr hh2 => ⟨fun h => absurd h (by omega), ?_⟩)⟩
          have hfr : FrG g13 w5 w15 := hfr.by hgr (fun i e => .inl (Option.some.inj e).symm)
          have ho : OwnI w15 w5.heap.size _ _ := owns_keep ho (fun j hj => hgr.block j (owns_own ho hj).1 (fun e => by have := (owns_own ho hj).2.1; have := Option.some.inj e; omega))
          repeat (any_goals (first
          | (with_reducible first|refine pureM_in ?_|((refine idGd ?_); first|refine zA ?_|refine zB ?_|refine zC ?_|refine zD ?_|refine zE ?_|((refine idGdD ?_); first|refine zF ?_|refine zG ?_|refine zH (fun hg=>?_) fun hg=>?_|refine zI ?_|refine zJ ?_|refine zK (fun hg=>?_) fun hg=>?_)|((refine idGdN ?_); first|refine zL ?_|refine zM ?_|refine zN (fun hg=>?_) fun hg=>?_|refine zO ?_|refine zP ?_|refine zQ (fun hg=>?_) fun hg=>?_)|refine zR ?_|refine zS ?_|refine zT ?_|refine zU ?_|refine zV ?_|refine zW ?_|refine zX (fun hg=>?_) fun hg=>?_|refine zY ?_|refine zZ ?_|refine yA (fun hg=>?_) fun hg=>?_)|((refine idPick ?_); first|refine yB ?_|refine yC ?_|refine yD ?_|refine yE ?_|refine yF ?_|refine yG ?_|refine yH ?_|refine yI ?_|refine yJ ?_|refine yK ?_)|((refine idCond ?_); first|refine yL ?_|refine yM ?_|refine yN ?_|refine yO ?_|refine yP (fun hg=>?_) fun hg=>?_|refine yQ ?_|refine yR ?_|refine yS (fun hg=>?_) fun hg=>?_|refine yT ?_|refine yU ?_|refine yV (fun hg=>?_) fun hg=>?_|refine yW ?_|refine yX ?_|refine yY (fun hg=>?_) fun hg=>?_))
          | ((with_reducible refine idO ?_); (with_reducible refine oM_gen fun Kv hK=>?_); simp [go_sem]; (try simp (disch := omega) only [wrapI64, wrapU8, wrapU32, wrapU64]); (first|refine hK _ _ ?_|refine And.intro (by omega) (hK _ _ ?_)); clear hK; clear Kv)))
          refine ⟨⟨hfr, _, _, _, i + 1, rfl, by omega, ho, hh2⟩, ?_⟩
          simp only [vsMu_eq]; omega
end
end Go.Proofs
set_option linter.unusedVariables false
set_option maxRecDepth 100000
namespace Go.Proofs
open Go.Sh
/-- cloak/ticket.Decode -/
def sh_45 (a0 : Value) (K : Value → World → Prop) (w : World) : Prop :=
 oM Tryz.prog (Go.Op.alloc 43) 0 [] (fun v2_1 w =>
 callM Tryz.prog 116 #[a0] (fun v7_2 w =>
 callM Tryz.prog 117 #[v7_2] (fun v9_3 w =>
 oM Tryz.prog (Go.Op.call (Go.Call.mk (Go.Callee.builtin Go.Builtin.len) #[(.tmp 0)] #[22])) 3 [v9_3] (fun v11_4 w =>
 oM Tryz.prog (Go.Op.binOp Go.BinOp.neq 3 (.tmp 0) (.const (.int .i64 6)) 3) 4 [v11_4] (fun v12_5 w =>
 gdM (gd v12_5 false) (pureM v7_2) (fun v14_6 w =>
 gdM (gd v12_5 false) (callM Tryz.prog 118 #[v14_6]) (fun v15_7 w =>
 gdM (gd v12_5 false) (oM Tryz.prog (Go.Op.unOp Go.UnOp.not 4 (.tmp 0)) 4 [v15_7]) (fun v16_8 w =>
 oM Tryz.prog (Go.Op.pick (.tmp 0) (.tmp 1) (.tmp 2)) 4 [v12_5, (.bool true), v16_8] (fun v17_9 w =>
 condM v17_9
 (oM Tryz.prog (Go.Op.build 43 #[]) 43 [] (fun v18_10 w =>
 oM Tryz.prog (Go.Op.store 43 (.tmp 0) (.tmp 1)) 0 [v2_1, v18_10] (fun _ w =>
 ∃ r_11, (do loadVar 43 (← asAddr v2_1) : Sem Value).run Tryz.prog w = .ok r_11 w ∧ K (.tuple #[r_11, (.bool false)]) w) w) w)
 (heldM w (fun C_12 w => (pureH v9_3 C_12 (fun v19_13 =>
 oH Tryz.prog (Go.Op.indexAddr 22 (.tmp 0) (.tmp 1)) 0 [v19_13, (.int .i64 0)] C_12 (fun v20_14 =>
 oH Tryz.prog (Go.Op.load 3 (.tmp 0)) 3 [v20_14] C_12 (fun v21_15 =>
 pureH v9_3 C_12 (fun v22_16 =>
 oH Tryz.prog (Go.Op.indexAddr 22 (.tmp 0) (.tmp 1)) 0 [v22_16, (.int .i64 1)] C_12 (fun v23_17 =>
 oH Tryz.prog (Go.Op.load 3 (.tmp 0)) 3 [v23_17] C_12 (fun v24_18 =>
 pureH v9_3 C_12 (fun v25_19 =>
 oH Tryz.prog (Go.Op.indexAddr 22 (.tmp 0) (.tmp 1)) 0 [v25_19, (.int .i64 2)] C_12 (fun v26_20 =>
 oH Tryz.prog (Go.Op.load 3 (.tmp 0)) 3 [v26_20] C_12 (fun v27_21 =>
 pureH v9_3 C_12 (fun v28_22 =>
 oH Tryz.prog (Go.Op.indexAddr 22 (.tmp 0) (.tmp 1)) 0 [v28_22, (.int .i64 3)] C_12 (fun v29_23 =>
 oH Tryz.prog (Go.Op.load 3 (.tmp 0)) 3 [v29_23] C_12 (fun v30_24 =>
 pureH v9_3 C_12 (fun v31_25 =>
 oH Tryz.prog (Go.Op.indexAddr 22 (.tmp 0) (.tmp 1)) 0 [v31_25, (.int .i64 4)] C_12 (fun v32_26 =>
 oH Tryz.prog (Go.Op.load 3 (.tmp 0)) 3 [v32_26] C_12 (fun v33_27 =>
 pureH v9_3 C_12 (fun v34_28 =>
 oH Tryz.prog (Go.Op.indexAddr 22 (.tmp 0) (.tmp 1)) 0 [v34_28, (.int .i64 5)] C_12 (fun v35_29 =>
 oH Tryz.prog (Go.Op.load 3 (.tmp 0)) 3 [v35_29] C_12 (fun v36_30 =>
 oM Tryz.prog (Go.Op.build 43 #[(0, (.tmp 0)), (1, (.tmp 1)), (2, (.tmp 2)), (3, (.tmp 3)), (4, (.tmp 4)), (5, (.tmp 5))]) 43 [v21_15, v24_18, v27_21, v30_24, v33_27, v36_30] (fun v37_31 w => C_12 w ∧ (
 oM Tryz.prog (Go.Op.store 43 (.tmp 0) (.tmp 1)) 0 [v2_1, v37_31] (fun _ w => C_12 w ∧ (
 C_12 w ∧ (∃ r_33, (do loadVar 43 (← asAddr v2_1) : Sem Value).run Tryz.prog w = .ok r_33 w ∧ K (.tuple #[r_33, (.bool true)]) w))) w)) w)))))))))))))))))))))) w) w) w) w) w) w) w) w) w
theorem sh_45_eq (a0 : Value) (K : Value → World → Prop) (w : World) : sh_45 a0 K w = code Tryz.prog (fun _ => 2) 38 (Tryz.f45.body.getD .skip) (slotsAt [a0]) (retK Tryz.prog [.cell 2 43, .tmp 3] K) w := by kernel_rfl
theorem sh_45_ok {a0 : Value} {K : Value → World → Prop} {w : World} (h : sh_45 a0 K w) : callM Tryz.prog 45 #[a0] K w :=
  calls_of_code (fun _ => 2) (fn := Tryz.f45) (rs := [.cell 2 43, .tmp 3]) Tryz.func45 rfl rfl (by kernel_rfl) (Nat.le_of_ble_eq_true rfl) ((sh_45_eq a0 K w).mp h)

/-- cloak/ticket.Encode -/
def sh_46 (a0 : Value) (K : Value → World → Prop) (w : World) : Prop :=
 oM Tryz.prog (Go.Op.box 43 (.tmp 0)) 0 [a0] (fun v1_1 w =>
 oM Tryz.prog (Go.Op.fieldAddr 43 (.tmp 0) 0) 0 [v1_1] (fun v3_2 w =>
 oM Tryz.prog (Go.Op.load 3 (.tmp 0)) 3 [v3_2] (fun v4_3 w =>
 oM Tryz.prog (Go.Op.fieldAddr 43 (.tmp 0) 1) 0 [v1_1] (fun v5_4 w =>
 oM Tryz.prog (Go.Op.load 3 (.tmp 0)) 3 [v5_4] (fun v6_5 w =>
 oM Tryz.prog (Go.Op.fieldAddr 43 (.tmp 0) 2) 0 [v1_1] (fun v7_6 w =>
 oM Tryz.prog (Go.Op.load 3 (.tmp 0)) 3 [v7_6] (fun v8_7 w =>
 oM Tryz.prog (Go.Op.fieldAddr 43 (.tmp 0) 3) 0 [v1_1] (fun v9_8 w =>
 oM Tryz.prog (Go.Op.load 3 (.tmp 0)) 3 [v9_8] (fun v10_9 w =>
 oM Tryz.prog (Go.Op.fieldAddr 43 (.tmp 0) 4) 0 [v1_1] (fun v11_10 w =>
 oM Tryz.prog (Go.Op.load 3 (.tmp 0)) 3 [v11_10] (fun v12_11 w =>
 oM Tryz.prog (Go.Op.fieldAddr 43 (.tmp 0) 5) 0 [v1_1] (fun v13_12 w =>
 oM Tryz.prog (Go.Op.load 3 (.tmp 0)) 3 [v13_12] (fun v14_13 w =>
 oM Tryz.prog (Go.Op.buildSlice 22 6 #[(0, (.tmp 0)), (1, (.tmp 1)), (2, (.tmp 2)), (3, (.tmp 3)), (4, (.tmp 4)), (5, (.tmp 5))]) 22 [v4_3, v6_5, v8_7, v10_9, v12_11, v14_13] (fun v15_14 w =>
 callM Tryz.prog 119 #[v15_14] (fun v16_15 w =>
 K v16_15 w) w) w) w) w) w) w) w) w) w) w) w) w) w) w) w
theorem sh_46_eq (a0 : Value) (K : Value → World → Prop) (w : World) : sh_46 a0 K w = code Tryz.prog (fun _ => 2) 17 (Tryz.f46.body.getD .skip) (slotsAt [a0]) (retK Tryz.prog [.tmp 2] K) w := by kernel_rfl
theorem sh_46_ok {a0 : Value} {K : Value → World → Prop} {w : World} (h : sh_46 a0 K w) : callM Tryz.prog 46 #[a0] K w :=
  calls_of_code (fun _ => 2) (fn := Tryz.f46) (rs := [.tmp 2]) Tryz.func46 rfl rfl (by kernel_rfl) (Nat.le_of_ble_eq_true rfl) ((sh_46_eq a0 K w).mp h)

/-- cloak/cloaklaw04.TicketCodes -/
def sh_8 (a0 : Value) (a1 : Value) (K : Value → World → Prop) (w : World) : Prop :=
 oM Tryz.prog (Go.Op.box 43 (.tmp 0)) 0 [a0] (fun v2_1 w =>
 callM Tryz.prog 22 #[] (fun v10_2 w =>
 oM Tryz.prog (Go.Op.call (Go.Call.mk (Go.Callee.builtin Go.Builtin.len) #[(.tmp 0)] #[9])) 3 [a1] (fun v12_3 w =>
 oM Tryz.prog (Go.Op.binOp Go.BinOp.gtr 3 (.tmp 0) (.tmp 1) 3) 4 [v12_3, (.int .i64 300)] (fun v13_4 w =>
 condM v13_4
 (K v10_2 w)
 (oM Tryz.prog (Go.Op.load 43 (.tmp 0)) 43 [v2_1] (fun v16_5 w =>
 callM Tryz.prog 46 #[v16_5] (fun v17_6 w =>
 callM Tryz.prog 45 #[v17_6] (fun v18_7 w =>
 oM Tryz.prog (Go.Op.extract (.tmp 0) 0) 43 [v18_7] (fun v19_8 w =>
 oM Tryz.prog (Go.Op.extract (.tmp 0) 1) 4 [v18_7] (fun v20_9 w =>
 oM Tryz.prog (Go.Op.alloc 43) 0 [] (fun v6_10 w =>
 oM Tryz.prog (Go.Op.store 43 (.tmp 0) (.tmp 1)) 0 [v6_10, v19_8] (fun _ w =>
 callM Tryz.prog 45 #[a1] (fun v23_11 w =>
 oM Tryz.prog (Go.Op.extract (.tmp 0) 0) 43 [v23_11] (fun v24_12 w =>
 oM Tryz.prog (Go.Op.extract (.tmp 0) 1) 4 [v23_11] (fun v25_13 w =>
 oM Tryz.prog (Go.Op.alloc 43) 0 [] (fun v8_14 w =>
 oM Tryz.prog (Go.Op.store 43 (.tmp 0) (.tmp 1)) 0 [v8_14, v24_12] (fun _ w =>
 gdM (gd v10_2 true) (pureM v20_9) (fun v28_15 w =>
 oM Tryz.prog (Go.Op.pick (.tmp 0) (.tmp 1) (.tmp 2)) 4 [v10_2, v28_15, (.bool false)] (fun v29_16 w =>
 gdM (gd v29_16 true) (oM Tryz.prog (Go.Op.load 43 (.tmp 0)) 43 [v6_10]) (fun v31_17 w =>
 gdM (gd v29_16 true) (oM Tryz.prog (Go.Op.load 43 (.tmp 0)) 43 [v2_1]) (fun v32_18 w =>
 gdM (gd v29_16 true) (oM Tryz.prog (Go.Op.binOp Go.BinOp.eql 43 (.tmp 0) (.tmp 1) 43) 4 [v31_17, v32_18]) (fun v33_19 w =>
 oM Tryz.prog (Go.Op.pick (.tmp 0) (.tmp 1) (.tmp 2)) 4 [v29_16, v33_19, (.bool false)] (fun v34_20 w =>
 gdM (gd v34_20 true) (pureM v25_13) (fun v36_21 w =>
 gdM (gd v34_20 true) (oM Tryz.prog (Go.Op.unOp Go.UnOp.not 4 (.tmp 0)) 4 [v36_21]) (fun v37_22 w =>
 gdM (gd v34_20 true) (pureM v37_22) (fun v38_23 w =>
 gdM (gd v38_23 false) (oM Tryz.prog (Go.Op.load 43 (.tmp 0)) 43 [v8_14]) (fun v39_24 w =>
 gdM (gd v38_23 false) (callM Tryz.prog 46 #[v39_24]) (fun v40_25 w =>
 gdM (gd v38_23 false) (pureM a1) (fun v41_26 w =>
 gdM (gd v38_23 false) (oM Tryz.prog (Go.Op.binOp Go.BinOp.eql 9 (.tmp 0) (.tmp 1) 9) 4 [v40_25, v41_26]) (fun v42_27 w =>
 gdM (gd v34_20 true) (oM Tryz.prog (Go.Op.pick (.tmp 0) (.tmp 1) (.tmp 2)) 4 [v38_23, (.bool true), v42_27]) (fun v43_28 w =>
 oM Tryz.prog (Go.Op.pick (.tmp 0) (.tmp 1) (.tmp 2)) 4 [v34_20, v43_28, (.bool false)] (fun v44_29 w =>
 gdM (gd v44_29 true) (pureM v25_13) (fun v46_30 w =>
 gdM (gd v44_29 true) (pureM v46_30) (fun v47_31 w =>
 gdM (gd v47_31 false) (oM Tryz.prog (Go.Op.load 43 (.tmp 0)) 43 [v8_14]) (fun v48_32 w =>
 gdM (gd v47_31 false) (oM Tryz.prog (Go.Op.build 43 #[]) 43 []) (fun v49_33 w =>
 gdM (gd v47_31 false) (oM Tryz.prog (Go.Op.binOp Go.BinOp.eql 43 (.tmp 0) (.tmp 1) 43) 4 [v48_32, v49_33]) (fun v50_34 w =>
 gdM (gd v44_29 true) (oM Tryz.prog (Go.Op.pick (.tmp 0) (.tmp 1) (.tmp 2)) 4 [v47_31, (.bool true), v50_34]) (fun v51_35 w =>
 oM Tryz.prog (Go.Op.pick (.tmp 0) (.tmp 1) (.tmp 2)) 4 [v44_29, v51_35, (.bool false)] (fun v52_36 w =>
 K v52_36 w) w) w) w) w) w) w) w) w) w) w) w) w) w) w) w) w) w) w) w) w) w) w) w) w) w) w) w) w) w) w) w) w) w) w)) w) w) w) w
theorem sh_8_eq (a0 : Value) (a1 : Value) (K : Value → World → Prop) (w : World) : sh_8 a0 a1 K w = code Tryz.prog (fun _ => 2) 53 (Tryz.f8.body.getD .skip) (slotsAt [a0, a1]) (retK Tryz.prog [.tmp 4] K) w := by kernel_rfl
theorem sh_8_ok {a0 a1 : Value} {K : Value → World → Prop} {w : World} (h : sh_8 a0 a1 K w) : callM Tryz.prog 8 #[a0, a1] K w :=
  calls_of_code (fun _ => 2) (fn := Tryz.f8) (rs := [.tmp 4]) Tryz.func8 rfl rfl (by kernel_rfl) (Nat.le_of_ble_eq_true rfl) ((sh_8_eq a0 a1 K w).mp h)

end Go.Proofs
