/- Parts of the proof of the seat's statements (TkE, TkF, TkG, TkH, TkI, TkJ, TkK, TkL, TkM, TkN, HTd, HTc, ShelfT4, CodeSpec, TcB, TcE, TkO, TkP0, TkP, HRd, TqA, HLr, ShArr, ShMn, FdPoly, FdInv, FdThr, PrUnit, GrLaw, MrA, MrB, MrE, MrC): lemmas about the given translation and plain laws. No condition of their own. -/
import Derived.Test.YtpfjmfgnlpnflaaDoorRab
import Derived.Test.YtpfjmfgnlpnflaaDoorProg
import Derived.Shelf.Strings.Builder1
import Derived.Shelf.Small.Bits
import Derived.Shelf.Strings.BuilderF
import Derived.Shelf.Strings.BuilderK
import Derived.Shelf.Strconv.Itoa0
import Derived.Shelf.Strconv.Itoa1
import Derived.Shelf.LaysM
import Derived.Shelf.Strconv.Itoa2
import Derived.Shelf.Strconv.Itoa3
import Derived.Shelf.Bits.Mul64
import Derived.Shelf.Strings.BuilderCap
import Derived.Shelf.Slices.Reverse
import Derived.Shelf.Slices.Cells
import Derived.Shelf.SlicesE.Reverse
import Derived.Test.YtpfjmfgnlpnflaaDoorRows
import Derived.Lib.ItoaNum
import Derived.Lib.AtoiAllCases
import Derived.Lib.Builder
import Derived.Lib.ConvBytes
import Derived.Lib.AppendStr
import Derived.Lib.AppendIntMem
import Derived.Laws.StructEq
set_option linter.all false
set_option maxRecDepth 100000
namespace Go.Proofs
open Go Go.Sh Go.RowKit FdSpec TkSpec
set_option linter.unusedSimpArgs false
set_option linter.unusedVariables false
set_option maxRecDepth 10000
section
variable {K : Value → World → Prop} {w w0 : World} {L : List (Addr × Value)}
theorem exps_ok {v : Value} {l : List Int} (hl : Ints w v l) (hne : 0 < l.length) (hln : l.length < 1099511627776) (k : ∀ v' w', Ints w' v' (expsM l) → Below w.heap.size w w' → (∀ i, Value.inBlock v' = some i → w.heap.size ≤ i) → K v' w') : callM Tryd.prog 46 #[v] K w := by
  apply sh_46_ok
  unfold sh_46
  refine Clone_ok hl hln (fun v1 w1 ho hb hv => ?_)
  obtain ⟨g, cap, cur, rfl, hgw, _, hgb, hcs, hcap, hcell⟩ := owns_cells ho hne
  have hg := hv g rfl
  have e : (Instr.buildSlice 24 1 #[(0, .int .i64 1)]).run Tryd.prog w1 = .ok (.slice (some ⟨w1.heap.size, 0, none⟩) 1 1) (w1.alloc (.cells #[.int .i64 1] 3)) := by kernel_rfl
  rw [oM_buildSlice1, e, rM_ok]
  have hb2 := (Below.refl w1.heap.size w1).alloc (Nat.le_refl _) (.cells #[.int .i64 1] 3)
  refine Insert_ok (x := 1) (B := w.heap.size) hne hln (ho.alloc _) hg (by rw [alloc_size]; have := hb.size; omega) (b := w1.heap.size) (by show (w1.heap.push _)[w1.heap.size]? = _; exact Array.getElem?_push_size) (by omega) hl.rng (by unfold I64; omega) (fun v' w' hi hbb hff => ?_)
  exact k _ _ hi ((hb.on hb2).trans hbb) hff
theorem markM_no {s : Stp} {l : List Int} (h : validS s = false ∨ l.length + 1 ≠ s.bases.length ∨ numsM s 0 l = false ∨ l.headD 0 = 0) : markM s l = (0, false) := by
  unfold markM
  rw [if_neg]
  intro hc
  simp only [Bool.and_eq_true, decide_eq_true_eq, Bool.not_eq_true', decide_eq_false_iff_not] at hc
  obtain ⟨⟨⟨h1, h2⟩, h3⟩, h4⟩ := hc
  rcases h with h | h | h | h
  · rw [h] at h1; cases h1
  · exact h h2
  · rw [h] at h3; cases h3
  · exact h4 h
theorem markM_yes {s : Stp} {l : List Int} (h1 : validS s = true) (h2 : l.length + 1 = s.bases.length) (h3 : numsM s 0 l = true) (h4 : l.headD 0 ≠ 0) : markM s l = ((prodG s.g s.bases (expsM l)).1, true) := by
  unfold markM
  rw [if_pos]
  simp only [Bool.and_eq_true, decide_eq_true_eq, Bool.not_eq_true', decide_eq_false_iff_not]
  exact ⟨⟨⟨h1, h2⟩, h3⟩, h4⟩
theorem local_desk {K : Value → World → Prop} {T' T2 : TypeId} {g n : Nat} (s : Stp) (ad : Option Addr) (m c : Nat) (hk : KnM w0 L g n w)
    (k : ∀ b W, KnM w0 (cellsOf L b 0 (stpC s (.slice ad m c))) g n W → Below w.heap.size w W → w.heap.size ≤ b → K (.pointer (some ⟨b, 0, none⟩)) W) :
    oM Tryd.prog (.alloc 67) T' [] (fun v w => oM Tryd.prog (.store 67 (.tmp 0) (.tmp 1)) T2 [v, stpV s (.slice ad m c)] (fun _ w => K v w) w) w :=
  local_knm al_desk rfl sz_desk rfl rfl (stp_one s ad m c) hk k
theorem local_desk' {K : Value → World → Prop} {T' T2 : TypeId} (s : Stp) (ad : Option Addr) (m c : Nat) (hk : Kn w0 L w)
    (k : ∀ b W, Kn w0 (cellsOf L b 0 (stpC s (.slice ad m c))) W → Below w.heap.size w W → w.heap.size ≤ b → K (.pointer (some ⟨b, 0, none⟩)) W) :
    oM Tryd.prog (.alloc 67) T' [] (fun v w => oM Tryd.prog (.store 67 (.tmp 0) (.tmp 1)) T2 [v, stpV s (.slice ad m c)] (fun _ w => K v w) w) w :=
  local_kn al_desk rfl sz_desk rfl rfl (stp_one s ad m c) hk k
theorem validS_len {s : Stp} (h : validS s = true) : 2 ≤ s.bases.length ∧ s.bases.length ≤ 7 := by
  unfold validS at h
  simp only [Bool.and_eq_true, decide_eq_true_eq] at h
  exact ⟨h.1.1.1.2, h.1.1.2⟩
theorem store_desk {K : Value → World → Prop} {T' : TypeId} {g : Nat} (s : Stp) (ad : Option Addr) (m c : Nat) (hk : KnM w0 L g 5 w)
    (k : ∀ W, KnM w0 L g 5 W → cellsAre W (cellsOf [] g 0 (stpC s (.slice ad m c))) → K undef W) : oM Tryd.prog (.store 67 (.tmp 0) (.tmp 1)) T' [.pointer (some ⟨g, 0, none⟩), stpV s (.slice ad m c)] K w :=
  store_mine sz_desk rfl rfl (stp_one s ad m c) hk k
theorem _root_.Go.Sh.Ints.headD {w : World} {ad : Option Addr} {n c : Nat} {l : List Int} (h : Ints w (.slice ad n c) l) (hne : 0 < l.length) :
    ∃ b o, ad = some ⟨b, o, none⟩ ∧ (∀ w', Below w.heap.size w w' → w'.cell? ⟨b, o, none⟩ = some (.int .i64 (l.headD 0))) ∧ I64 (l.headD 0) := by
  obtain ⟨b, o, rfl, _, hc, hr, _⟩ := h.at hne
  have e : l[0] = l.headD 0 := by
    cases l with
    | nil => simp at hne
    | cons a l => rfl
  rw [e] at hc hr
  exact ⟨b, o, rfl, fun w' hb => by have := hc w' hb; simpa using this, hr⟩
theorem mark_ok (s : Stp) {v lv : Value} {l : List Int} (hs : SetR w s v) (hl : Ints w lv l) (k : ∀ w', Below w.heap.size w w' → K (.tuple #[stpV s v, .int .i64 (markM s l).1, .bool (markM s l).2]) w') : callM Tryd.prog 42 #[stpV s v, lv] K w := by
  apply sh_42_ok
  unfold sh_42
  obtain ⟨ad, c, rfl⟩ := hs.ints.isSlice
  have hone := stp_one s ad s.bases.length c
  have k2 : ∀ w' r, markM s l = r → Below w.heap.size w w' → K (.tuple #[stpV s (.slice ad s.bases.length c), .int .i64 r.1, .bool r.2]) w' := fun w' r e hb => by rw [← e]; exact k w' hb
  clear k
  refine box_kn (cs := stpC s (.slice ad s.bases.length c)) rfl (.start w) fun b W hk hb1 hb => ?_
  refine alloc_mine al_desk rfl hk fun g W2 hk hb2 hg => ?_
  repeat (any_goals ((with_reducible refine idO ?_); (with_reducible refine oM_gen fun Kv hK=>?_); simp [go_sem, hk.cells]; refine hK _ _ ?_; clear hK; clear Kv))
  refine open_ok s (hs.next hk.below) (fun w2 h2 => ?_)
  have hk := hk.next h2
  clear h2 hb1 hb2
  have hll := hl.len
  have hbl := hs.ints.len
  obtain ⟨lad, lc, rfl⟩ := hl.isSlice
  cases hv : validS s with
  | false =>
    repeat (any_goals (first
    | ((with_reducible refine local_desk s ad s.bases.length c hk ?_); intro b7 W7 hk hb7 hg7)
    | (with_reducible first|((refine idGd ?_); refine zD ?_)|((refine idPick ?_); refine yB ?_)|((refine idCond ?_); refine yL ?_))
    | ((with_reducible refine idO ?_); (with_reducible refine oM_gen fun Kv hK=>?_); simp [go_sem, hk.cells]; refine hK _ _ ?_; clear hK; clear Kv)))
    refine store_desk s ad _ c hk (fun W3 hk hc => ⟨_, by simp [go_sem, hc], k2 _ _ (markM_no (.inl hv)) hk.below⟩)
  | true =>
    have hlen := validS_len hv
    repeat (any_goals (first
    | ((with_reducible refine local_desk s ad s.bases.length c hk ?_); intro b7 W7 hk hb7 hg7)
    | (with_reducible first|refine pureM_in ?_|((refine idGd ?_); first|refine zC ?_|refine zD ?_|((refine idGdN ?_); first|refine zO ?_|refine zP ?_|refine zQ (fun hg=>?_) fun hg=>?_))|((refine idPick ?_); first|refine yB ?_|refine yC ?_|refine yF ?_)|((refine idCond ?_); refine yL ?_))
    | ((with_reducible refine idO ?_); (with_reducible refine oM_gen fun Kv hK=>?_); simp [go_sem, hk.cells]; (try simp (disch := omega) only [wrapI64, wrapU8, wrapU32, wrapU64]); refine hK _ _ ?_; clear hK; clear Kv)))
    · refine nums_ok s 0 (hs.next hk.below) (hl.next hk.below) (fun w3 h3 => ?_)
      have hk := hk.next h3
      obtain ⟨b8, o8, rfl, c8, r8⟩ := hl.headD (by omega)
      obtain ⟨x0, hx0⟩ : ∃ x0, l.headD 0 = x0 := ⟨_, rfl⟩
      rw [hx0] at c8 r8
      cases hn : numsM s 0 l with
      | false =>
        repeat (any_goals (first
        | (with_reducible first|((refine idGd ?_); first|refine zD ?_|((refine idGdN ?_); refine zO ?_))|((refine idPick ?_); first|refine yB ?_|refine yG ?_)|((refine idCond ?_); refine yL ?_))
        | ((with_reducible refine idO ?_); (with_reducible refine oM_gen fun Kv hK=>?_); simp [go_sem, hk.cells]; refine hK _ _ ?_; clear hK; clear Kv)))
        refine store_desk s ad _ c hk (fun W3 hk hc => ⟨_, by simp [go_sem, hc], k2 _ _ (markM_no (.inr (.inr (.inl hn)))) hk.below⟩)
      | true =>
        by_cases h0 : x0 = 0
        · repeat (any_goals (first
          | (with_reducible first|refine pureM_in ?_|((refine idGd ?_); first|refine zC ?_|((refine idGdN ?_); refine zO ?_))|((refine idPick ?_); first|refine yC ?_|refine yG ?_)|((refine idCond ?_); refine yL ?_))
          | ((with_reducible refine idO ?_); (with_reducible refine oM_gen fun Kv hK=>?_); simp [go_sem, hk.cells, c8 _ hk.below, h0]; (first|refine hK _ _ ?_|refine And.intro (by omega) (hK _ _ ?_)); clear hK; clear Kv)))
          refine store_desk s ad _ c hk (fun W3 hk hc => ⟨_, by simp [go_sem, hc], k2 _ _ (markM_no (.inr (.inr (.inr (hx0.trans h0))))) hk.below⟩)
        · repeat (any_goals (first
          | (with_reducible first|refine pureM_in ?_|((refine idGd ?_); first|refine zC ?_|((refine idGdN ?_); refine zO ?_))|((refine idPick ?_); first|refine yC ?_|refine yG ?_)|((refine idCond ?_); refine yM ?_))
          | ((with_reducible refine idO ?_); (with_reducible refine oM_gen fun Kv hK=>?_); simp [go_sem, hk.cells, c8 _ hk.below, h0]; (first|refine hK _ _ ?_|refine And.intro (by omega) (hK _ _ ?_)); clear hK; clear Kv)))
          have em := markM_yes hv (by omega) hn (by rw [hx0]; exact h0)
          refine ⟨KnM w _ g 5, hk.drew, ?_⟩
          have hk := hk.drew
          repeat (any_goals (first
          | (with_reducible refine pureH_in ?_)
          | ((with_reducible refine idOH ?_); (with_reducible refine oH_of ⟨_, rfl⟩ (fun W0 hW0 => by (refine oM_gen (fun Kv hK => ?_)); simp [go_sem, hW0.cells]; (first | exact hK _ _ ⟨rfl, rfl⟩ | exact ⟨by omega, hK _ _ ⟨rfl, rfl⟩⟩)) ?_))))
          refine exps_ok (hl.next hk.below) (by omega) (by omega) (fun ev w4 he h4 _ => ?_)
          have hk := hk.next h4
          refine ⟨hk, ?_⟩
          refine product_t_ok s (hs.next hk.below) he (fun w5 h5 => ?_)
          have hk := hk.next h5
          refine ⟨hk, ?_⟩
          refine store_desk s ad _ c hk (fun W3 hk hc => ⟨hk, hk, hk, _, by simp [go_sem, hc], k2 _ _ em hk.below⟩)
    · refine store_desk s ad _ c hk (fun W3 hk hc => ⟨_, by simp [go_sem, hc], k2 _ _ (markM_no (.inr (.inl (by omega)))) hk.below⟩)
theorem usable_ok (s : Stp) {v lv : Value} {l : List Int} (hs : SetR w s v) (hl : Ints w lv l) (k : ∀ w', Below w.heap.size w w' → K (.tuple #[stpV s v, .int .i64 (usableM s l).1, .bool (usableM s l).2]) w') : callM Tryd.prog 43 #[stpV s v, lv] K w := by
  apply sh_43_ok
  unfold sh_43
  obtain ⟨ad, c, rfl⟩ := hs.ints.isSlice
  refine box_kn (cs := stpC s (.slice ad s.bases.length c)) rfl (.start w) fun b W hk hb1 hb => ?_
  refine alloc_mine al_desk rfl hk fun g W2 hk hb2 hg => ?_
  repeat (any_goals ((with_reducible refine idO ?_); (with_reducible refine oM_gen fun Kv hK=>?_); simp [go_sem, hk.cells]; refine hK _ _ ?_; clear hK; clear Kv))
  refine mark_ok s (hs.next hk.below) (hl.next hk.below) (fun w2 h2 => ?_)
  have hk := hk.next h2
  clear h2 hb1 hb2
  unfold usableM at k
  obtain ⟨⟨m, u⟩, hm⟩ : ∃ x, markM s l = x := ⟨_, rfl⟩
  rw [hm] at k ⊢
  simp only at k ⊢
  cases u with
  | false =>
    repeat (any_goals (first
    | ((with_reducible refine local_desk s ad s.bases.length c hk ?_); intro b7 W7 hk hb7 hg7)
    | (with_reducible first|((refine idGd ?_); refine zB ?_)|((refine idPick ?_); refine yC ?_))
    | ((with_reducible refine idO ?_); (with_reducible refine oM_gen fun Kv hK=>?_); simp [go_sem, hk.cells]; refine hK _ _ ?_; clear hK; clear Kv)))
    refine store_desk s ad _ c hk (fun W3 hk hc => ⟨_, by simp [go_sem, hc], k _ hk.below⟩)
  | true =>
    repeat (any_goals (first
    | ((with_reducible refine local_desk s ad s.bases.length c hk ?_); intro b7 W7 hk hb7 hg7)
    | (with_reducible first|refine pureM_in ?_|((refine idGd ?_); refine zA ?_)|((refine idPick ?_); refine yB ?_))
    | ((with_reducible refine idO ?_); (with_reducible refine oM_gen fun Kv hK=>?_); simp [go_sem, hk.cells]; refine hK _ _ ?_; clear hK; clear Kv)))
    refine store_desk s ad _ c hk (fun W3 hk hc => ⟨stpV s (.slice ad s.bases.length c), by simp [go_sem, hc], by simpa using k _ hk.below⟩)
end
end Go.Proofs
namespace Go.Proofs
open Go Go.Sh Go.RowKit FdSpec TkSpec
set_option linter.unusedSimpArgs false
set_option linter.unusedVariables false
set_option maxRecDepth 10000
theorem I64_of {x n : Int} (h : 0 ≤ x ∧ x < n) (hn : okN n) : I64 x := by unfold I64; unfold okN at hn; omega
theorem I64_0 : I64 0 := by unfold I64; omega
theorem mulM_I64 (n a b : Int) : I64 (mulM n a b) := by
  by_cases hn : okN n
  · exact I64_of (mulM_range n a b hn) hn
  · unfold mulM; rw [if_neg hn]; exact I64_0
theorem addM_I64 (n a b : Int) : I64 (addM n a b) := by
  by_cases hn : okN n
  · exact I64_of (addM_range n a b hn) hn
  · unfold addM; rw [if_neg hn]; exact I64_0
theorem subM_I64 (n a b : Int) : I64 (subM n a b) := by
  by_cases hn : okN n
  · exact I64_of (subM_range n a b hn) hn
  · unfold subM; rw [if_neg hn]; exact I64_0
theorem powM_I64 (n a b : Int) : I64 (powM n a b) := by
  by_cases hn : okN n
  · have h1 : 0 < n := by unfold okN at hn; omega
    unfold powM; rw [if_pos hn]
    split
    · exact I64_of (pw_nonneg n a _ h1) hn
    · split
      · exact I64_of (pw_nonneg n _ _ h1) hn
      · exact I64_0
  · unfold powM; rw [if_neg hn]; exact I64_0
theorem mulQ_I64 (s : Stp) (x : Int) (l : List Int) (h : l ≠ []) : I64 (mulQ s x l) := by
  unfold mulQ
  obtain ⟨l', y, rfl⟩ : ∃ l' y, l = l' ++ [y] := ⟨l.dropLast, l.getLast h, (List.dropLast_concat_getLast h).symm⟩
  rw [List.foldl_append]
  exact mulM_I64 _ _ _
section
variable {K : Value → World → Prop} {w w0 : World} {L : List (Addr × Value)}
theorem mk5 {T : TypeId} (a b c d e : Int) (ha : I64 a) (hb : I64 b) (hc : I64 c) (hd : I64 d) (he : I64 e) (k : ∀ v W, Below w.heap.size w W → Ints W v [a, b, c, d, e] → K v W) : oM Tryd.prog (.buildSlice 24 5 #[(0, .tmp 0), (1, .tmp 1), (2, .tmp 2), (3, .tmp 3), (4, .tmp 4)]) T [.int .i64 a, .int .i64 b, .int .i64 c, .int .i64 d, .int .i64 e] K w := by
  rw [rM_of (S := Instr.buildSlice 24 5 #[(0, .int .i64 a), (1, .int .i64 b), (2, .int .i64 c), (3, .int .i64 d), (4, .int .i64 e)]) (by simp [xop, execOp, evalL, evE])]
  have e : (Instr.buildSlice 24 5 #[(0, .int .i64 a), (1, .int .i64 b), (2, .int .i64 c), (3, .int .i64 d), (4, .int .i64 e)]).run Tryd.prog w = .ok (.slice (some ⟨w.heap.size, 0, none⟩) 5 5) (w.alloc (.cells #[.int .i64 a, .int .i64 b, .int .i64 c, .int .i64 d, .int .i64 e] 3)) := by kernel_rfl
  rw [e]
  exact k _ _ ((Below.refl _ w).alloc (Nat.le_refl _) _) (ints_alloc w [a, b, c, d, _] _ 5 (by simp; exact ⟨ha, hb, hc, hd, he⟩) (by simp))
theorem over_ok (s : Stp) (x y : Int) {dv : Value} (hs : SetR w s dv) (k : ∀ w', Below w.heap.size w w' → K (.int .i64 (overQ s x y)) w') : callM Tryd.prog 28 #[stpV s dv, .int .i64 x, .int .i64 y] K w := by
  apply sh_28_ok
  unfold sh_28
  obtain ⟨ad, c, rfl⟩ := hs.ints.isSlice
  refine box_kn (cs := stpC s (.slice ad s.bases.length c)) rfl (.start w) fun b W hk hb1 hb => ?_
  refine ⟨Kn w _, hk.drew, ?_⟩
  have hk := hk.drew
  repeat (any_goals (first
  | (with_reducible refine pureH_in ?_)
  | ((with_reducible refine idOH ?_); (with_reducible refine oH_of ⟨_, rfl⟩ (fun W0 hW0 => by (refine oM_gen (fun Kv hK => ?_)); simp [go_sem, hW0.cells]; (first | exact hK _ _ ⟨rfl, rfl⟩ | exact ⟨by omega, hK _ _ ⟨rfl, rfl⟩⟩)) ?_))))
  refine Pow_ok _ _ _ (by omega) (fun w2 h2 => ?_)
  have hk := hk.next h2
  refine ⟨hk, mk1 _ (powM_I64 _ _ _) (fun v w3 h3 hi => ?_)⟩
  have hk := hk.next h3
  refine ⟨hk, mul_ok s x (hs.next hk.below) hi (fun w4 h4 => ?_)⟩
  have hk := hk.next h4
  exact ⟨hk, hk, k _ hk.below⟩
theorem Mark_ok (s : Stp) {v lv : Value} {l : List Int} (hs : SetR w s v) (hl : Ints w lv l) (k : ∀ w', Below w.heap.size w w' → K (.int .i64 (markM s l).1) w') : callM Tryd.prog 18 #[stpV s v, lv] K w := by
  apply sh_18_ok
  unfold sh_18
  obtain ⟨ad, c, rfl⟩ := hs.ints.isSlice
  refine box_kn (cs := stpC s (.slice ad s.bases.length c)) rfl (.start w) fun b W hk hb1 hb => ?_
  repeat (any_goals ((with_reducible refine idO ?_); (with_reducible refine oM_gen fun Kv hK=>?_); simp [go_sem, hk.cells]; refine hK _ _ ?_; clear hK; clear Kv))
  refine mark_ok s (hs.next hk.below) (hl.next hk.below) (fun w2 h2 => ?_)
  have hk := hk.next h2
  repeat (any_goals (first
  | ((with_reducible refine local_desk' s ad s.bases.length c hk ?_); intro b7 W7 hk hb7 hg7)
  | ((with_reducible refine idO ?_); (with_reducible refine oM_gen fun Kv hK=>?_); simp [go_sem, hk.cells]; refine hK _ _ ?_; clear hK; clear Kv)))
  exact k _ hk.below
theorem Usable_ok (s : Stp) {v lv : Value} {l : List Int} (hs : SetR w s v) (hl : Ints w lv l) (k : ∀ w', Below w.heap.size w w' → K (.bool (usableM s l).2) w') : callM Tryd.prog 19 #[stpV s v, lv] K w := by
  apply sh_19_ok
  unfold sh_19
  obtain ⟨ad, c, rfl⟩ := hs.ints.isSlice
  refine box_kn (cs := stpC s (.slice ad s.bases.length c)) rfl (.start w) fun b W hk hb1 hb => ?_
  repeat (any_goals ((with_reducible refine idO ?_); (with_reducible refine oM_gen fun Kv hK=>?_); simp [go_sem, hk.cells]; refine hK _ _ ?_; clear hK; clear Kv))
  refine usable_ok s (hs.next hk.below) (hl.next hk.below) (fun w2 h2 => ?_)
  have hk := hk.next h2
  repeat (any_goals (first
  | ((with_reducible refine local_desk' s ad s.bases.length c hk ?_); intro b7 W7 hk hb7 hg7)
  | ((with_reducible refine idO ?_); (with_reducible refine oM_gen fun Kv hK=>?_); simp [go_sem, hk.cells]; refine hK _ _ ?_; clear hK; clear Kv)))
  exact k _ hk.below
theorem Public_ok (s : Stp) (x : Int) {v : Value} (hx : I64 x) (hs : SetR w s v) (k : ∀ w', Below w.heap.size w w' → K (.int .i64 (publicM s x)) w') : callM Tryd.prog 24 #[stpV s v, .int .i64 x] K w := by
  apply sh_24_ok
  unfold sh_24
  obtain ⟨ad, c, rfl⟩ := hs.ints.isSlice
  refine box_kn (cs := stpC s (.slice ad s.bases.length c)) rfl (.start w) fun b W hk hb1 hb => ?_
  have k2 : ∀ w' r, publicM s x = r → Below w.heap.size w w' → K (.int .i64 r) w' := fun w' r e hb => by rw [← e]; exact k w' hb
  clear k
  unfold publicM at k2
  repeat (any_goals ((with_reducible refine idO ?_); (with_reducible refine oM_gen fun Kv hK=>?_); simp [go_sem, hk.cells]; refine hK _ _ ?_; clear hK; clear Kv))
  refine open_ok s (hs.next hk.below) (fun w2 h2 => ?_)
  have hk := hk.next h2
  clear hb1 h2
  cases hv : validS s with
  | false =>
    repeat (any_goals (first
    | ((with_reducible refine local_desk' s ad s.bases.length c hk ?_); intro b7 W7 hk hb7 hg7)
    | (with_reducible first|((refine idGd ?_); refine zB ?_)|((refine idPick ?_); refine yC ?_)|((refine idCond ?_); refine yM ?_))
    | ((with_reducible refine idO ?_); (with_reducible refine oM_gen fun Kv hK=>?_); simp [go_sem, hk.cells]; refine hK _ _ ?_; clear hK; clear Kv)))
    exact k2 _ _ (by rw [hv]; rfl) hk.below
  | true =>
    repeat (any_goals (first
    | ((with_reducible refine local_desk' s ad s.bases.length c hk ?_); intro b7 W7 hk hb7 hg7) | ((with_reducible refine mk1 x hx ?_); intro v8 W8 hb8 hi)
    | (with_reducible first|refine pureM_in ?_|((refine idGd ?_); refine zA ?_))
    | ((with_reducible refine idO ?_); (with_reducible refine oM_gen fun Kv hK=>?_); simp [go_sem, hk.cells]; refine hK _ _ ?_; clear hK; clear Kv)))
    have hk := hk.next hb8
    refine nums_ok s 1 (hs.next hk.below) hi (fun w3 h3 => ?_)
    have hk := hk.next h3
    cases hn : numsM s 1 [x] with
    | false =>
      repeat (any_goals (with_reducible first|((refine idPick ?_); refine yB ?_)|((refine idCond ?_); refine yM ?_)))
      exact k2 _ _ (by rw [hv, hn]; rfl) hk.below
    | true =>
      repeat (any_goals (first
      | (with_reducible first|((refine idPick ?_); refine yB ?_)|((refine idCond ?_); refine yL ?_))
      | ((with_reducible refine idO ?_); (with_reducible refine oM_gen fun Kv hK=>?_); simp [go_sem, hk.cells]; refine hK _ _ ?_; clear hK; clear Kv)))
      refine generated_ok s x (hs.next hk.below) (fun w4 h4 => ?_)
      have hk := hk.next h4
      exact k2 _ _ (by rw [hv, hn]; rfl) hk.below
theorem Grant_ok (s : Stp) (x y z : Int) {v : Value} (hx : I64 x) (hy : I64 y) (hz : I64 z) (hs : SetR w s v) (k : ∀ w', Below w.heap.size w w' → K (.int .i64 (grantM s x y z)) w') : callM Tryd.prog 25 #[stpV s v, .int .i64 x, .int .i64 y, .int .i64 z] K w := by
  apply sh_25_ok
  unfold sh_25
  obtain ⟨ad, c, rfl⟩ := hs.ints.isSlice
  refine box_kn (cs := stpC s (.slice ad s.bases.length c)) rfl (.start w) fun b W hk hb1 hb => ?_
  have k2 : ∀ w' r, grantM s x y z = r → Below w.heap.size w w' → K (.int .i64 r) w' := fun w' r e hb => by rw [← e]; exact k w' hb
  clear k
  unfold grantM at k2
  repeat (any_goals ((with_reducible refine idO ?_); (with_reducible refine oM_gen fun Kv hK=>?_); simp [go_sem, hk.cells]; refine hK _ _ ?_; clear hK; clear Kv))
  refine open_ok s (hs.next hk.below) (fun w2 h2 => ?_)
  have hk := hk.next h2
  clear hb1 h2
  cases hv : validS s with
  | false =>
    repeat (any_goals (first
    | ((with_reducible refine local_desk' s ad s.bases.length c hk ?_); intro b7 W7 hk hb7 hg7)
    | (with_reducible first|((refine idGd ?_); refine zB ?_)|((refine idPick ?_); refine yC ?_)|((refine idCond ?_); refine yM ?_))
    | ((with_reducible refine idO ?_); (with_reducible refine oM_gen fun Kv hK=>?_); simp [go_sem, hk.cells]; refine hK _ _ ?_; clear hK; clear Kv)))
    exact k2 _ _ (by rw [hv]; rfl) hk.below
  | true =>
    repeat (any_goals (first
    | ((with_reducible refine local_desk' s ad s.bases.length c hk ?_); intro b7 W7 hk hb7 hg7) | ((with_reducible refine mk1 x hx ?_); intro v8 W8 hb8 hi)
    | (with_reducible first|refine pureM_in ?_|((refine idGd ?_); refine zA ?_))
    | ((with_reducible refine idO ?_); (with_reducible refine oM_gen fun Kv hK=>?_); simp [go_sem, hk.cells]; refine hK _ _ ?_; clear hK; clear Kv)))
    have hk := hk.next hb8
    refine nums_ok s 1 (hs.next hk.below) hi (fun w3 h3 => ?_)
    have hk := hk.next h3
    cases hn : numsM s 1 [x] with
    | false =>
      repeat (any_goals (with_reducible first|((refine idGd ?_); refine zB ?_)|((refine idPick ?_); first|refine yB ?_|refine yC ?_)|((refine idCond ?_); refine yM ?_)))
      exact k2 _ _ (by rw [hv, hn]; rfl) hk.below
    | true =>
      repeat (any_goals (first
      | ((with_reducible refine mk2 y z hy hz ?_); intro v9 W9 hb9 hi)
      | (with_reducible first|refine pureM_in ?_|((refine idGd ?_); refine zA ?_)|((refine idPick ?_); refine yB ?_))
      | ((with_reducible refine idO ?_); (with_reducible refine oM_gen fun Kv hK=>?_); simp [go_sem, hk.cells]; refine hK _ _ ?_; clear hK; clear Kv)))
      have hk := hk.next hb9
      refine nums_ok s 0 (hs.next hk.below) hi (fun w4 h4 => ?_)
      have hk := hk.next h4
      cases hn2 : numsM s 0 [y, z] with
      | false =>
        repeat (any_goals (with_reducible first|((refine idPick ?_); refine yB ?_)|((refine idCond ?_); refine yM ?_)))
        exact k2 _ _ (by rw [hv, hn, hn2]; rfl) hk.below
      | true =>
        repeat (any_goals (with_reducible first|((refine idPick ?_); refine yB ?_)|((refine idCond ?_); refine yL ?_)))
        refine ⟨Kn w _, hk.drew, ?_⟩
        have hk := hk.drew
        repeat (any_goals (first
        | ((with_reducible refine mk1 x hx ?_); intro v9 W9 hb9 hi)
        | (with_reducible refine pureH_in ?_)
        | ((with_reducible refine idOH ?_); (with_reducible refine oH_of ⟨_, rfl⟩ (fun W0 hW0 => by (refine oM_gen (fun Kv hK => ?_)); simp [go_sem, hW0.cells]; (first | exact hK _ _ ⟨rfl, rfl⟩ | exact ⟨by omega, hK _ _ ⟨rfl, rfl⟩⟩)) ?_))))
        have hk := hk.next hb9
        refine ⟨hk, mul_ok s z (hs.next hk.below) hi (fun w5 h5 => ?_)⟩
        have hk := hk.next h5
        refine ⟨hk, plus_ok s _ y (hs.next hk.below) (fun w6 h6 => ?_)⟩
        have hk := hk.next h6
        exact ⟨hk, hk, k2 _ _ (by rw [hv, hn, hn2]; rfl) hk.below⟩
end
end Go.Proofs
namespace Go.Proofs
open Go Go.Sh Go.RowKit FdSpec TkSpec
set_option linter.unusedSimpArgs false
set_option linter.unusedVariables false
set_option maxRecDepth 10000
section
variable {K : Value → World → Prop} {w w0 : World} {L : List (Addr × Value)}
@[reducible] def offV (o : Off) : Value := .agg #[.int .i64 o.z, .int .i64 o.a, .int .i64 o.b]
@[reducible] def tktV (t : Tkt) : Value := .agg #[.int .i64 t.mark, .int .i64 t.first, .int .i64 t.z, .int .i64 t.a, .int .i64 t.b, .int .i64 t.r]
@[reducible] def tktC (t : Tkt) : List Value := [.int .i64 t.mark, .int .i64 t.first, .int .i64 t.z, .int .i64 t.a, .int .i64 t.b, .int .i64 t.r]
@[reducible] def bldV (b : Bld) (v : Value) : Value := .agg #[.int .i64 b.s, .int .i64 b.u, .int .i64 b.v, v]
@[reducible] def bldC (b : Bld) (v : Value) : List Value := [.int .i64 b.s, .int .i64 b.u, .int .i64 b.v, v]
@[reducible] def spdV (x : Spd) (v : Value) : Value := .agg #[.int .i64 x.dare, v]
@[reducible] def spdC (x : Spd) (v : Value) : List Value := [.int .i64 x.dare, v]
structure TktR (t : Tkt) : Prop where
  mark : I64 t.mark
  first : I64 t.first
  z : I64 t.z
  a : I64 t.a
  b : I64 t.b
  r : I64 t.r
structure BldR (w : World) (b : Bld) (bv : Value) : Prop where
  s : I64 b.s
  u : I64 b.u
  v : I64 b.v
  ys : Ints w bv b.ys
structure SpdR (w : World) (x : Spd) (v : Value) : Prop where
  dare : I64 x.dare
  answers : Ints w v x.answers
theorem BldR.next {w w' : World} {b : Bld} {v : Value} (h : BldR w b v) (hb : Below w.heap.size w w') : BldR w' b v := ⟨h.s, h.u, h.v, h.ys.next hb⟩
theorem SpdR.next {w w' : World} {x : Spd} {v : Value} (h : SpdR w x v) (hb : Below w.heap.size w w') : SpdR w' x v := ⟨h.dare, h.answers.next hb⟩
theorem sz_off (w : World) : (sizeOf 56).run Tryd.prog w = .ok 3 w := by kernel_rfl
theorem al_off (w : World) : (Instr.alloc 56 true (.tuple #[])).run Tryd.prog w = .ok (.pointer (some ⟨w.heap.size, 0, none⟩)) (w.alloc (.cells [.int .i64 0, .int .i64 0, .int .i64 0].toArray 56)) := by kernel_rfl
theorem off_one (o : Off) : ∀ u ∈ [Value.int .i64 o.z, .int .i64 o.a, .int .i64 o.b], u.oneCell' = true := by
  intro u hu
  simp only [List.mem_cons, List.not_mem_nil, or_false] at hu
  rcases hu with rfl | rfl | rfl <;> rfl
theorem store_off {K : Value → World → Prop} {T' : TypeId} {g : Nat} (o : Off) (hk : KnM w0 L g 3 w)
    (k : ∀ W, KnM w0 L g 3 W → cellsAre W (cellsOf [] g 0 [.int .i64 o.z, .int .i64 o.a, .int .i64 o.b]) → K undef W) : oM Tryd.prog (.store 56 (.tmp 0) (.tmp 1)) T' [.pointer (some ⟨g, 0, none⟩), offV o] K w :=
  store_mine sz_off rfl rfl (off_one o) hk k
theorem propose_no {s : Stp} {x : Int} {l : List Int} {y : Int} (h : (usableM s l).2 = false ∨ numsM s 1 [x] = false ∨ numsM s 0 [y] = false) : proposeM s x l y = (⟨0, 0, 0⟩, 1) := by
  unfold proposeM
  rw [if_neg]
  rcases h with h | h | h <;> simp [h]
theorem Propose_ok (s : Stp) (x y : Int) {v lv : Value} {l : List Int} (hx : I64 x) (hy : I64 y) (hs : SetR w s v) (hl : Ints w lv l) (k : ∀ w', Below w.heap.size w w' → K (.tuple #[offV (proposeM s x l y).1, .int .i64 (proposeM s x l y).2]) w') : callM Tryd.prog 21 #[stpV s v, .int .i64 x, lv, .int .i64 y] K w := by
  apply sh_21_ok
  unfold sh_21
  obtain ⟨ad, c, rfl⟩ := hs.ints.isSlice
  have k2 : ∀ w' r, proposeM s x l y = r → Below w.heap.size w w' → K (.tuple #[offV r.1, .int .i64 r.2]) w' := fun w' r e hb => by rw [← e]; exact k w' hb
  clear k
  refine box_kn (cs := stpC s (.slice ad s.bases.length c)) rfl (.start w) fun b W hk hb1 hb => ?_
  refine alloc_mine al_off rfl hk fun g W2 hk hb2 hg => ?_
  repeat (any_goals ((with_reducible refine idO ?_); (with_reducible refine oM_gen fun Kv hK=>?_); simp [go_sem, hk.cells]; refine hK _ _ ?_; clear hK; clear Kv))
  refine usable_ok s (hs.next hk.below) (hl.next hk.below) (fun w2 h2 => ?_)
  have hk := hk.next h2
  clear hb1 h2 hb2
  obtain ⟨⟨m, u⟩, hm⟩ : ∃ x, usableM s l = x := ⟨_, rfl⟩
  rw [hm]
  cases u with
  | false =>
    repeat (any_goals (first
    | ((with_reducible refine local_desk s ad s.bases.length c hk ?_); intro b7 W7 hk hb7 hg7)
    | (with_reducible first|((refine idGd ?_); refine zD ?_)|((refine idPick ?_); refine yB ?_)|((refine idCond ?_); refine yL ?_))
    | ((with_reducible refine idO ?_); (with_reducible refine oM_gen fun Kv hK=>?_); simp [go_sem, hk.cells]; refine hK _ _ ?_; clear hK; clear Kv)))
    refine store_off ⟨0, 0, 0⟩ hk (fun W3 hk hc => ⟨_, by simp [go_sem, hc], k2 _ _ (propose_no (.inl (by rw [hm]))) hk.below⟩)
  | true =>
    repeat (any_goals (first
    | ((with_reducible refine local_desk s ad s.bases.length c hk ?_); intro b7 W7 hk hb7 hg7) | ((with_reducible refine mk1 x hx ?_); intro v8 W8 hb8 hi)
    | (with_reducible first|refine pureM_in ?_|((refine idGd ?_); refine zC ?_))
    | ((with_reducible refine idO ?_); (with_reducible refine oM_gen fun Kv hK=>?_); simp [go_sem, hk.cells]; refine hK _ _ ?_; clear hK; clear Kv)))
    have hk := hk.next hb8
    refine nums_ok s 1 (hs.next hk.below) hi (fun w3 h3 => ?_)
    have hk := hk.next h3
    cases hn : numsM s 1 [x] with
    | false =>
      repeat (any_goals (first
      | (with_reducible first|((refine idGd ?_); first|refine zC ?_|refine zD ?_)|((refine idPick ?_); first|refine yB ?_|refine yC ?_)|((refine idCond ?_); refine yL ?_))
      | ((with_reducible refine idO ?_); (with_reducible refine oM_gen fun Kv hK=>?_); simp [go_sem, hk.cells]; refine hK _ _ ?_; clear hK; clear Kv)))
      refine store_off ⟨0, 0, 0⟩ hk (fun W3 hk hc => ⟨_, by simp [go_sem, hc], k2 _ _ (propose_no (.inr (.inl hn))) hk.below⟩)
    | true =>
      repeat (any_goals (first
      | ((with_reducible refine mk1 y hy ?_); intro v9 W9 hb9 hi)
      | (with_reducible first|refine pureM_in ?_|((refine idGd ?_); refine zC ?_)|((refine idPick ?_); refine yC ?_))
      | ((with_reducible refine idO ?_); (with_reducible refine oM_gen fun Kv hK=>?_); simp [go_sem, hk.cells]; refine hK _ _ ?_; clear hK; clear Kv)))
      have hk := hk.next hb9
      refine nums_ok s 0 (hs.next hk.below) hi (fun w4 h4 => ?_)
      have hk := hk.next h4
      cases hn2 : numsM s 0 [y] with
      | false =>
        repeat (any_goals (first
        | (with_reducible first|((refine idGd ?_); refine zC ?_)|((refine idPick ?_); refine yC ?_)|((refine idCond ?_); refine yL ?_))
        | ((with_reducible refine idO ?_); (with_reducible refine oM_gen fun Kv hK=>?_); simp [go_sem, hk.cells]; refine hK _ _ ?_; clear hK; clear Kv)))
        refine store_off ⟨0, 0, 0⟩ hk (fun W3 hk hc => ⟨_, by simp [go_sem, hc], k2 _ _ (propose_no (.inr (.inr hn2))) hk.below⟩)
      | true =>
        have e : proposeM s x l y = (⟨powerG s.g m x, genM s y, powerG s.g m y⟩, 0) := by
          unfold proposeM
          rw [if_pos (by rw [hm, hn, hn2]; rfl), hm]
        repeat (any_goals (first
        | (with_reducible first|((refine idGd ?_); refine zC ?_)|((refine idPick ?_); refine yC ?_)|((refine idCond ?_); refine yM ?_))
        | ((with_reducible refine idO ?_); (with_reducible refine oM_gen fun Kv hK=>?_); simp [go_sem, hk.cells]; refine hK _ _ ?_; clear hK; clear Kv)))
        refine ⟨KnM w _ g 3, hk.drew, ?_⟩
        have hk := hk.drew
        repeat (any_goals (first
        | (with_reducible refine pureH_in ?_)
        | ((with_reducible refine idOH ?_); (with_reducible refine oH_of ⟨_, rfl⟩ (fun W0 hW0 => by (refine oM_gen (fun Kv hK => ?_)); simp [go_sem, hW0.cells]; (first | exact hK _ _ ⟨rfl, rfl⟩ | exact ⟨by omega, hK _ _ ⟨rfl, rfl⟩⟩)) ?_))))
        refine tpower_ok s m x (hs.next hk.below) (fun w5 h5 => ?_)
        have hk := hk.next h5
        refine ⟨hk, generated_ok s y (hs.next hk.below) (fun w6 h6 => ?_)⟩
        have hk := hk.next h6
        refine ⟨hk, tpower_ok s m y (hs.next hk.below) (fun w7 h7 => ?_)⟩
        have hk := hk.next h7
        refine ⟨hk, ?_⟩
        generalize powerG s.g m x = p1 at *
        generalize genM s y = p2 at *
        generalize powerG s.g m y = p3 at *
        repeat (any_goals ((with_reducible refine idO ?_); (with_reducible refine oM_gen fun Kv hK=>?_); simp [go_sem]; refine hK _ _ ?_; clear hK; clear Kv))
        refine ⟨hk, store_off ⟨p1, p2, p3⟩ hk (fun W3 hk hc => ⟨hk, hk, _, by simp [go_sem, hc], k2 _ _ e hk.below⟩)⟩
theorem blinds_ok (s : Stp) (b : Bld) {v bv : Value} (hs : SetR w s v) (hb : BldR w b bv) (k : ∀ w', Below w.heap.size w w' → K (.bool (blindsM s b)) w') : callM Tryd.prog 45 #[stpV s v, bldV b bv] K w := by
  apply sh_45_ok
  unfold sh_45
  obtain ⟨ad, c, rfl⟩ := hs.ints.isSlice
  have hys := hb.ys
  obtain ⟨yad, yc, rfl⟩ := hb.ys.isSlice
  have k2 : ∀ w' r, blindsM s b = r → Below w.heap.size w w' → K (.bool r) w' := fun w' r e hb => by rw [← e]; exact k w' hb
  clear k
  unfold blindsM at k2
  refine box_kn (cs := stpC s (.slice ad s.bases.length c)) rfl (.start w) fun b1 W hk hb1 hbb => ?_
  refine box_kn (cs := bldC b (.slice yad b.ys.length yc)) rfl hk fun b2 W2 hk hb2 hbb => ?_
  repeat (any_goals (first
  | ((with_reducible refine mk2 b.s b.u hb.s hb.u ?_); intro v8 W8 hb8 hi)
  | ((with_reducible refine idO ?_); (with_reducible refine oM_gen fun Kv hK=>?_); simp [go_sem, hk.cells]; refine hK _ _ ?_; clear hK; clear Kv)))
  have hk := hk.next hb8
  refine nums_ok s 1 (hs.next hk.below) hi (fun w3 h3 => ?_)
  have hk := hk.next h3
  cases hn : numsM s 1 [b.s, b.u] with
  | false =>
    repeat (any_goals (with_reducible first|((refine idGd ?_); refine zB ?_)|((refine idPick ?_); refine yC ?_)))
    exact k2 _ _ (by rw [hn]; rfl) hk.below
  | true =>
    repeat (any_goals (first
    | ((with_reducible refine mk1 b.v hb.v ?_); intro v9 W9 hb9 hi)
    | (with_reducible ((refine idGd ?_); refine zA ?_))
    | ((with_reducible refine idO ?_); (with_reducible refine oM_gen fun Kv hK=>?_); simp [go_sem, hk.cells]; refine hK _ _ ?_; clear hK; clear Kv)))
    have hk := hk.next hb9
    refine nums_ok s 0 (hs.next hk.below) hi (fun w4 h4 => ?_)
    have hk := hk.next h4
    cases hn2 : numsM s 0 [b.v] with
    | false =>
      repeat (any_goals (with_reducible first|((refine idGd ?_); refine zB ?_)|((refine idPick ?_); first|refine yB ?_|refine yC ?_)))
      exact k2 _ _ (by rw [hn, hn2]; rfl) hk.below
    | true =>
      by_cases hlen : b.ys.length = s.bases.length
      · repeat (any_goals (first
        | (with_reducible first|((refine idGd ?_); refine zA ?_)|((refine idPick ?_); refine yB ?_))
        | ((with_reducible refine idO ?_); (with_reducible refine oM_gen fun Kv hK=>?_); simp [go_sem, hk.cells, hlen]; refine hK _ _ ?_; clear hK; clear Kv)))
        have hys2 : Ints w (.slice yad s.bases.length yc) b.ys := by rw [← hlen]; exact hys
        refine nums_ok s 0 (hs.next hk.below) (hys2.next hk.below) (fun w5 h5 => ?_)
        have hk := hk.next h5
        repeat (any_goals (with_reducible ((refine idPick ?_); refine yB ?_)))
        exact k2 _ _ (by rw [hn, hn2]; simp [hlen]) hk.below
      · have hl' : ¬ (b.ys.length : Int) = s.bases.length := by omega
        repeat (any_goals (first
        | (with_reducible first|((refine idGd ?_); first|refine zA ?_|refine zB ?_)|((refine idPick ?_); first|refine yB ?_|refine yC ?_))
        | ((with_reducible refine idO ?_); (with_reducible refine oM_gen fun Kv hK=>?_); simp [go_sem, hk.cells, hl']; refine hK _ _ ?_; clear hK; clear Kv)))
        exact k2 _ _ (by rw [hn, hn2]; simp [hlen]) hk.below
end
end Go.Proofs
namespace Go.Proofs
open Go Go.Sh Go.RowKit FdSpec TkSpec
set_option linter.unusedSimpArgs false
set_option linter.unusedVariables false
set_option maxRecDepth 10000
section
variable {K : Value → World → Prop} {w w0 : World} {L : List (Addr × Value)}
theorem formed_ok (s : Stp) (t : Tkt) {v : Value} (ht : TktR t) (hs : SetR w s v) (k : ∀ w', Below w.heap.size w w' → K (.tuple #[stpV s v, .bool (formedM s t)]) w') : callM Tryd.prog 29 #[stpV s v, tktV t] K w := by
  apply sh_29_ok
  unfold sh_29
  obtain ⟨ad, c, rfl⟩ := hs.ints.isSlice
  have k2 : ∀ w' r, formedM s t = r → Below w.heap.size w w' → K (.tuple #[stpV s (.slice ad s.bases.length c), .bool r]) w' := fun w' r e hb => by rw [← e]; exact k w' hb
  clear k
  unfold formedM at k2
  refine box_kn (cs := stpC s (.slice ad s.bases.length c)) rfl (.start w) fun b1 W hk hb1 hbb => ?_
  refine box_kn (cs := tktC t) rfl hk fun b2 W2 hk hb2 hbb => ?_
  refine alloc_mine (n := 5) al_desk rfl hk fun g W2 hk hb2 hg => ?_
  repeat (any_goals ((with_reducible refine idO ?_); (with_reducible refine oM_gen fun Kv hK=>?_); simp [go_sem, hk.cells]; refine hK _ _ ?_; clear hK; clear Kv))
  refine open_ok s (hs.next hk.below) (fun w2 h2 => ?_)
  have hk := hk.next h2
  clear hb1 h2 hb2
  cases hv : validS s with
  | false =>
    repeat (any_goals (first
    | ((with_reducible refine local_desk s ad s.bases.length c hk ?_); intro b7 W7 hk hb7 hg7)
    | ((with_reducible refine idO ?_); (with_reducible refine oM_gen fun Kv hK=>?_); simp [go_sem, hk.cells]; refine hK _ _ ?_; clear hK; clear Kv)))
    refine ⟨KnM w _ g 5, hk.drew, ?_⟩
    have hk := hk.drew
    repeat (any_goals (first
    | (with_reducible refine And.intro hk ?_)
    | (with_reducible first|refine pureH_in ?_|((refine idGdH ?_); refine gdH_conv fun _=>?_)|((refine idGd ?_); refine zB ?_))
    | ((with_reducible refine idOH ?_); first|(with_reducible refine vB ?_)|(with_reducible refine oH_of ⟨_, rfl⟩ (fun W0 hW0 => by (refine oM_gen (fun Kv hK => ?_)); simp [go_sem, hW0.cells]; (first | exact hK _ _ ⟨rfl, rfl⟩ | exact ⟨by omega, hK _ _ ⟨rfl, rfl⟩⟩)) ?_))))
    exact store_desk s ad _ c hk (fun W3 hk hc => ⟨hk, hk, _, by simp [go_sem, hc], k2 _ _ (by rw [hv]; rfl) hk.below⟩)
  | true =>
    repeat (any_goals (first
    | ((with_reducible refine local_desk s ad s.bases.length c hk ?_); intro b7 W7 hk hb7 hg7)
    | ((with_reducible refine idO ?_); (with_reducible refine oM_gen fun Kv hK=>?_); simp [go_sem, hk.cells]; refine hK _ _ ?_; clear hK; clear Kv)))
    refine ⟨KnM w _ g 5, hk.drew, ?_⟩
    have hk := hk.drew
    by_cases hm : t.mark = 1
    · repeat (any_goals (first
      | (with_reducible refine And.intro hk ?_)
      | (with_reducible first|refine pureH_in ?_|((refine idGdH ?_); refine gdH_conv fun _=>?_)|((refine idGd ?_); first|refine zA ?_|refine zB ?_))
      | ((with_reducible refine idOH ?_); first|(with_reducible first|refine vA ?_|refine vB ?_)|(with_reducible refine oH_of ⟨_, rfl⟩ (fun W0 hW0 => by (refine oM_gen (fun Kv hK => ?_)); simp [go_sem, hW0.cells, hm]; (first | exact hK _ _ ⟨rfl, rfl⟩ | exact ⟨by omega, hK _ _ ⟨rfl, rfl⟩⟩)) ?_))))
      exact store_desk s ad _ c hk (fun W3 hk hc => ⟨hk, hk, _, by simp [go_sem, hc], k2 _ _ (by rw [hv, hm]; rfl) hk.below⟩)
    · repeat (any_goals (first
      | (with_reducible refine And.intro hk ?_)
      | ((with_reducible refine mk5 t.mark t.first t.z t.a t.b ht.mark ht.first ht.z ht.a ht.b ?_); intro v8 W8 hb8 hi)
      | (with_reducible first|refine pureH_in ?_|((refine idGdH ?_); refine gdH_conv fun _=>?_)|((refine idGd ?_); refine zA ?_))
      | ((with_reducible refine idOH ?_); first|(with_reducible refine vA ?_)|(with_reducible refine oH_of ⟨_, rfl⟩ (fun W0 hW0 => by (refine oM_gen (fun Kv hK => ?_)); simp [go_sem, hW0.cells, hm]; (first | exact hK _ _ ⟨rfl, rfl⟩ | exact ⟨by omega, hK _ _ ⟨rfl, rfl⟩⟩)) ?_))))
      have hk := hk.next hb8
      refine ⟨hk, elements_ok s (hs.next hk.below) hi (fun w3 h3 => ?_)⟩
      have hk := hk.next h3
      refine ⟨hk, ?_⟩
      cases he : elementsM s [t.mark, t.first, t.z, t.a, t.b] with
      | false =>
        repeat (any_goals (first
        | (with_reducible refine And.intro hk ?_)
        | (with_reducible first|refine pureH_in ?_|((refine idGdH ?_); refine gdH_conv fun _=>?_)|((refine idGd ?_); refine zB ?_))
        | ((with_reducible refine idOH ?_); (with_reducible first|refine vA ?_|refine vB ?_))))
        exact store_desk s ad _ c hk (fun W3 hk hc => ⟨hk, hk, _, by simp [go_sem, hc], k2 _ _ (by rw [hv, he]; simp) hk.below⟩)
      | true =>
        repeat (any_goals (first
        | (with_reducible refine And.intro hk ?_)
        | ((with_reducible refine mk1 t.r ht.r ?_); intro v9 W9 hb9 hi9)
        | (with_reducible first|refine pureH_in ?_|((refine idGdH ?_); refine gdH_conv fun _=>?_)|((refine idGd ?_); refine zA ?_))
        | ((with_reducible refine idOH ?_); first|(with_reducible refine vA ?_)|(with_reducible refine oH_of ⟨_, rfl⟩ (fun W0 hW0 => by (refine oM_gen (fun Kv hK => ?_)); simp [go_sem, hW0.cells]; (first | exact hK _ _ ⟨rfl, rfl⟩ | exact ⟨by omega, hK _ _ ⟨rfl, rfl⟩⟩)) ?_))))
        have hk := hk.next hb9
        refine ⟨hk, nums_ok s 0 (hs.next hk.below) hi9 (fun w4 h4 => ?_)⟩
        have hk := hk.next h4
        refine ⟨hk, ?_⟩
        repeat (any_goals (first
        | (with_reducible refine And.intro hk ?_)
        | ((with_reducible refine idOH ?_); (with_reducible refine vA ?_))))
        exact store_desk s ad _ c hk (fun W3 hk hc => ⟨hk, hk, _, by simp [go_sem, hc], k2 _ _ (by rw [hv, he]; simp [hm]) hk.below⟩)
theorem acceptsM_no {s : Stp} {t : Tkt} {x : Spd} (h : formedM s t = false ∨ numsM s 1 [x.dare] = false ∨ x.answers.length ≠ s.bases.length ∨ numsM s 0 x.answers = false) : acceptsM s t x = false := by
  unfold acceptsM
  rw [if_neg]
  rcases h with h | h | h | h <;> simp [h]
theorem Accepts_ok (s : Stp) (t : Tkt) (x : Spd) {v xv : Value} (ht : TktR t) (hs : SetR w s v) (hx : SpdR w x xv) (k : ∀ w', Below w.heap.size w w' → K (.bool (acceptsM s t x)) w') : callM Tryd.prog 8 #[stpV s v, tktV t, spdV x xv] K w := by
  apply sh_8_ok
  unfold sh_8
  obtain ⟨ad, c, rfl⟩ := hs.ints.isSlice
  have hans := hx.answers
  obtain ⟨xad, xc, rfl⟩ := hx.answers.isSlice
  have k2 : ∀ w' r, acceptsM s t x = r → Below w.heap.size w w' → K (.bool r) w' := fun w' r e hb => by rw [← e]; exact k w' hb
  clear k
  refine box_kn (cs := stpC s (.slice ad s.bases.length c)) rfl (.start w) fun b1 W hk hb1 hbb => ?_
  refine box_kn (cs := tktC t) rfl hk fun b2 W2 hk hb2 hbb => ?_
  refine box_kn (cs := spdC x (.slice xad x.answers.length xc)) rfl hk fun b3 W3 hk hb3 hbb => ?_
  repeat (any_goals ((with_reducible refine idO ?_); (with_reducible refine oM_gen fun Kv hK=>?_); simp [go_sem, hk.cells]; refine hK _ _ ?_; clear hK; clear Kv))
  refine formed_ok s t ht (hs.next hk.below) (fun w2 h2 => ?_)
  have hk := hk.next h2
  clear hb1 h2 hb2 hb3
  cases hv : formedM s t with
  | false =>
    repeat (any_goals (first
    | ((with_reducible refine local_desk' s ad s.bases.length c hk ?_); intro b7 W7 hk hb7 hg7)
    | (with_reducible first|((refine idGd ?_); refine zD ?_)|((refine idPick ?_); refine yB ?_)|((refine idCond ?_); refine yL ?_))
    | ((with_reducible refine idO ?_); (with_reducible refine oM_gen fun Kv hK=>?_); simp [go_sem, hk.cells]; refine hK _ _ ?_; clear hK; clear Kv)))
    exact k2 _ _ (acceptsM_no (.inl hv)) hk.below
  | true =>
    repeat (any_goals (first
    | ((with_reducible refine local_desk' s ad s.bases.length c hk ?_); intro b7 W7 hk hb7 hg7) | ((with_reducible refine mk1 x.dare hx.dare ?_); intro v8 W8 hb8 hi)
    | (with_reducible ((refine idGd ?_); refine zC ?_))
    | ((with_reducible refine idO ?_); (with_reducible refine oM_gen fun Kv hK=>?_); simp [go_sem, hk.cells]; refine hK _ _ ?_; clear hK; clear Kv)))
    have hk := hk.next hb8
    refine nums_ok s 1 (hs.next hk.below) hi (fun w3 h3 => ?_)
    have hk := hk.next h3
    cases hn : numsM s 1 [x.dare] with
    | false =>
      repeat (any_goals (first
      | (with_reducible first|((refine idGd ?_); first|refine zC ?_|refine zD ?_)|((refine idPick ?_); first|refine yB ?_|refine yC ?_)|((refine idCond ?_); refine yL ?_))
      | ((with_reducible refine idO ?_); (with_reducible refine oM_gen fun Kv hK=>?_); simp [go_sem, hk.cells]; refine hK _ _ ?_; clear hK; clear Kv)))
      exact k2 _ _ (acceptsM_no (.inr (.inl hn))) hk.below
    | true =>
      by_cases hlen : x.answers.length = s.bases.length
      · repeat (any_goals (first
        | (with_reducible first|((refine idGd ?_); refine zC ?_)|((refine idPick ?_); refine yC ?_))
        | ((with_reducible refine idO ?_); (with_reducible refine oM_gen fun Kv hK=>?_); simp [go_sem, hk.cells, hlen]; refine hK _ _ ?_; clear hK; clear Kv)))
        have hans2 : Ints w (.slice xad s.bases.length xc) x.answers := by rw [← hlen]; exact hans
        refine nums_ok s 0 (hs.next hk.below) (hans2.next hk.below) (fun w5 h5 => ?_)
        have hk := hk.next h5
        cases hn2 : numsM s 0 x.answers with
        | false =>
          repeat (any_goals (first
          | (with_reducible first|((refine idGd ?_); refine zC ?_)|((refine idPick ?_); refine yC ?_)|((refine idCond ?_); refine yL ?_))
          | ((with_reducible refine idO ?_); (with_reducible refine oM_gen fun Kv hK=>?_); simp [go_sem, hk.cells]; refine hK _ _ ?_; clear hK; clear Kv)))
          exact k2 _ _ (acceptsM_no (.inr (.inr (.inr hn2)))) hk.below
        | true =>
          repeat (any_goals (first
          | (with_reducible first|((refine idGd ?_); refine zC ?_)|((refine idPick ?_); refine yC ?_)|((refine idCond ?_); refine yM ?_))
          | ((with_reducible refine idO ?_); (with_reducible refine oM_gen fun Kv hK=>?_); simp [go_sem, hk.cells]; refine hK _ _ ?_; clear hK; clear Kv)))
          have e : acceptsM s t x = decide ((prodG s.g s.bases x.answers).1 = timesM s (powerG s.g t.mark x.dare) [t.first]) := by
            unfold acceptsM
            rw [if_pos (by rw [hv, hn, hn2]; simp [hlen])]
          refine ⟨Kn w _, hk.drew, ?_⟩
          have hk := hk.drew
          repeat (any_goals ((with_reducible refine idOH ?_); (with_reducible refine oH_of ⟨_, rfl⟩ (fun W0 hW0 => by (refine oM_gen (fun Kv hK => ?_)); simp [go_sem, hW0.cells, hlen]; (first | exact hK _ _ ⟨rfl, rfl⟩ | exact ⟨by omega, hK _ _ ⟨rfl, rfl⟩⟩)) ?_)))
          refine ⟨?_, ?_⟩
          · refine product_t_ok s (hs.next hk.below) (hans2.next hk.below) (fun w6 h6 => ?_)
            have hk := hk.next h6
            refine ⟨hk, ?_, ?_⟩
            · refine tpower_ok s t.mark x.dare (hs.next hk.below) (fun w7 h7 => ?_)
              have hk := hk.next h7
              refine ⟨hk, mk1 t.first ht.first (fun v8 w8 h8 hi => ?_)⟩
              have hk := hk.next h8
              refine ⟨hk, times_ok s _ (hs.next hk.below) hi (fun w9 h9 => ?_)⟩
              have hk := hk.next h9
              refine ⟨hk, ?_⟩
              repeat (any_goals ((with_reducible refine idOH ?_); (with_reducible refine oH_of ⟨_, rfl⟩ (fun W0 hW0 => by (refine oM_gen (fun Kv hK => ?_)); simp [go_sem]; (first | exact hK _ _ ⟨rfl, rfl⟩ | exact ⟨by omega, hK _ _ ⟨rfl, rfl⟩⟩)) ?_)))
              exact ⟨hk, k2 _ _ e hk.below⟩
            · refine mk1 t.first ht.first (fun v8 w8 h8 hi => ?_)
              have hk := hk.next h8
              refine ⟨hk, tpower_ok s t.mark x.dare (hs.next hk.below) (fun w7 h7 => ?_)⟩
              have hk := hk.next h7
              refine ⟨hk, times_ok s _ (hs.next hk.below) (hi.next h7) (fun w9 h9 => ?_)⟩
              have hk := hk.next h9
              refine ⟨hk, ?_⟩
              repeat (any_goals ((with_reducible refine idOH ?_); (with_reducible refine oH_of ⟨_, rfl⟩ (fun W0 hW0 => by (refine oM_gen (fun Kv hK => ?_)); simp [go_sem]; (first | exact hK _ _ ⟨rfl, rfl⟩ | exact ⟨by omega, hK _ _ ⟨rfl, rfl⟩⟩)) ?_)))
              exact ⟨hk, k2 _ _ e hk.below⟩
          · refine mk1 t.first ht.first (fun v8 w8 h8 hi => ?_)
            have hk := hk.next h8
            refine ⟨hk, product_t_ok s (hs.next hk.below) (hans2.next hk.below) (fun w6 h6 => ?_)⟩
            have hk := hk.next h6
            refine ⟨hk, tpower_ok s t.mark x.dare (hs.next hk.below) (fun w7 h7 => ?_)⟩
            have hk := hk.next h7
            refine ⟨hk, times_ok s _ (hs.next hk.below) ((hi.next h6).next h7) (fun w9 h9 => ?_)⟩
            have hk := hk.next h9
            refine ⟨hk, ?_⟩
            repeat (any_goals ((with_reducible refine idOH ?_); (with_reducible refine oH_of ⟨_, rfl⟩ (fun W0 hW0 => by (refine oM_gen (fun Kv hK => ?_)); simp [go_sem]; (first | exact hK _ _ ⟨rfl, rfl⟩ | exact ⟨by omega, hK _ _ ⟨rfl, rfl⟩⟩)) ?_)))
            exact ⟨hk, k2 _ _ e hk.below⟩
      · have hl' : ¬ (x.answers.length : Int) = s.bases.length := by omega
        repeat (any_goals (first
        | (with_reducible first|((refine idGd ?_); first|refine zC ?_|refine zD ?_)|((refine idPick ?_); first|refine yB ?_|refine yC ?_)|((refine idCond ?_); refine yL ?_))
        | ((with_reducible refine idO ?_); (with_reducible refine oM_gen fun Kv hK=>?_); simp [go_sem, hk.cells, hl']; refine hK _ _ ?_; clear hK; clear Kv)))
        exact k2 _ _ (acceptsM_no (.inr (.inr (.inl hlen)))) hk.below
end
end Go.Proofs
namespace Go.Proofs
open Go Go.Sh Go.RowKit FdSpec TkSpec
set_option linter.unusedSimpArgs false
set_option linter.unusedVariables false
set_option maxRecDepth 10000
section
variable {K : Value → World → Prop} {w w0 : World} {L : List (Addr × Value)}
abbrev OwnI (w : World) (B : Nat) (v : Value) (l : List Int) : Prop := w.ownsRow B 3 1 v l.length (flat intC l)
theorem OwnI.ints {B : Nat} {v : Value} {l : List Int} (h : OwnI w B v l) (hr : ∀ n ∈ l, I64 n) (hl : l.length ≤ 9223372036854775807) : Ints w v l := Ints.of_owns h hr hl
theorem owns_up {B C : Nat} {e : TypeId} {sz : Nat} {v : Value} {n : Nat} {xs : List Value} (h : w.ownsRow B e sz v n xs) (hc : ∀ i, v.ownBlock = some i → C ≤ i) : w.ownsRow C e sz v n xs := by
  refine ⟨h.1, h.2.imp id ?_⟩
  rintro ⟨g, cap, cur, rfl, hb, hr⟩
  exact ⟨g, cap, cur, rfl, hc g rfl, hr⟩
theorem OwnI.keep {B : Nat} {v : Value} {l : List Int} {w' : World} (h : OwnI w B v l) (hb : Below w.heap.size w w') : OwnI w' B v l :=
  owns_keep h (fun i hi => hb.block i (owns_own h hi).1)
theorem append1 {B : Nat} {T : TypeId} {v xv : Value} {l : List Int} {x : Int} (ho : OwnI w B v l) (hB : B ≤ w.heap.size) (hx : Ints w xv [x]) (hl : l.length < 1099511627776)
    (k : ∀ v' w', OwnI w' B v' (l ++ [x]) → Below B w w' → K v' w') : oM Tryd.prog (.call { callee := .builtin .append, args := #[.tmp 0, .tmp 1], argTypes := #[24, 24] }) T [v, xv] K w := by
  obtain ⟨⟨ad, c, rfl, h0, hc⟩, hr, _⟩ := hx
  have hc := hc.resolve_left (by simp)
  obtain ⟨b, o, rfl, hlt, hcell⟩ := hc
  refine append_at 24 T 3 ((Tryd.prog.info? 3).getD default) (.int .i64 0) 1 8 (by kernel_rfl) (by kernel_rfl) (by kernel_rfl) (by kernel_rfl) (by kernel_rfl) (by kernel_rfl) (by omega) (owns_base ho (Nat.zero_le _)) [.int .i64 x] (by simp) (by simp) ?_ ?_ (by simp only [maxLen, List.length_singleton]; omega) (by simp only [List.length_singleton]; omega) ?_
  · rintro a ha j u hj
    cases ha
    rw [add_none]
    exact hcell j u hj
  · intro u hu
    simp only [List.mem_singleton] at hu
    subst hu; rfl
  · intro v' w' ho' hg hv
    have hbl : ∀ i, v.ownBlock = some i → B ≤ i := fun i hi => (owns_own ho hi).2.1
    refine k v' w' ?_ ((Below.refl B w).grown hg hB hbl)
    have e1 : (l ++ [x]).length = l.length + [x].length := by simp
    have e2 : flat intC (l ++ [x]) = flat intC l ++ [Value.int .i64 x] := by rw [flat_int, flat_int]; simp
    show w'.ownsRow B 3 1 v' (l ++ [x]).length (flat intC (l ++ [x]))
    rw [e1, e2]
    exact owns_up ho' (fun i hi => (hv i hi).elim (hbl i) (fun h => Nat.le_trans hB h))
theorem Same_ok {v u : Value} {a b : List Int} (ha : Ints w v a) (hb : Ints w u b) (k : ∀ w', Below w.heap.size w w' → K (.bool (decide (a = b))) w') : callM Tryd.prog 23 #[v, u] K w := by
  apply sh_23_ok
  unfold sh_23
  obtain ⟨ad1, c1, rfl⟩ := ha.isSlice
  obtain ⟨ad2, c2, rfl⟩ := hb.isSlice
  have l1 := ha.len
  have l2 := hb.len
  by_cases hl : a.length = b.length
  · repeat (any_goals (first
    | (with_reducible ((refine idCond ?_); refine yM ?_))
    | ((with_reducible refine idO ?_); (with_reducible refine oM_gen fun Kv hK=>?_); simp [go_sem, hl]; refine hK _ _ ?_; clear hK; clear Kv)))
    refine ⟨fun vs w' => Below w.heap.size w w' ∧ ∃ (v : Value) (i : Nat), vs = [v, .int .i64 (i : Int)] ∧ i ≤ a.length ∧ a.take i = b.take i, fun vs _ => match vs with | [_, .int _ i] => b.length - i.toNat | _ => 0, ⟨Below.refl _ _, _, 0, rfl, by omega, rfl⟩, ?_⟩
    rintro _ _ w1 ⟨h1, u1, i, rfl, hi, he⟩
    by_cases hin : i = b.length
    · have e : a = b := by
        rw [List.take_of_length_le (by omega), List.take_of_length_le (by omega)] at he
        exact he
      have k := k _ h1
      rw [decide_eq_true e] at k
      repeat (any_goals (first
      | (with_reducible ((refine idCond ?_); refine yO ?_))
      | ((with_reducible refine idO ?_); (with_reducible refine oM_gen fun Kv hK=>?_); simp [go_sem, hl]; refine hK _ _ ?_; clear hK; clear Kv)))
      exact k
    · obtain ⟨b1, o1, rfl, hb1, ca, ra, _⟩ := ha.at (i := i) (by omega)
      obtain ⟨b2, o2, rfl, hb2, cb, rb, _⟩ := hb.at (i := i) (by omega)
      repeat (any_goals (first
      | (with_reducible ((refine idCond ?_); refine yN ?_))
      | ((with_reducible refine idO ?_); (with_reducible refine oM_gen fun Kv hK=>?_); simp [go_sem, hl]; refine hK _ _ ?_; clear hK; clear Kv)))
      refine ⟨Below w.heap.size w, h1.trans .drawn, ?_⟩
      by_cases hx : a[i] = b[i]
      · repeat (any_goals ((with_reducible refine idOQ ?_); (with_reducible refine oQ_of ⟨_, rfl⟩ (fun W0 hW0 => by (refine oM_gen (fun Kv hK => ?_)); simp [go_sem, ca _ hW0, cb _ hW0, hl, hx]; (first | exact hK _ _ ⟨rfl, rfl⟩ | exact ⟨by omega, hK _ _ ⟨rfl, rfl⟩⟩)) ?_)))
        intro w2 h2
        repeat (any_goals (first
        | (with_reducible ((refine idCond ?_); refine yM ?_))
        | ((with_reducible refine idO ?_); (with_reducible refine oM_gen fun Kv hK=>?_); simp [go_sem, hx]; (try simp (disch := omega) only [wrapI64, wrapU8, wrapU32, wrapU64]); refine hK _ _ ?_; clear hK; clear Kv)))
        refine ⟨⟨h2, _, i + 1, rfl, by omega, ?_⟩, by show b.length - (((i + 1 : Nat) : Int)).toNat < b.length - ((i : Nat) : Int).toNat; omega⟩
        rw [List.take_succ_eq_append_getElem (by omega), List.take_succ_eq_append_getElem (by omega), he, hx]
      · repeat (any_goals ((with_reducible refine idOQ ?_); (with_reducible refine oQ_of ⟨_, rfl⟩ (fun W0 hW0 => by (refine oM_gen (fun Kv hK => ?_)); simp [go_sem, ca _ hW0, cb _ hW0, hl, hx]; (first | exact hK _ _ ⟨rfl, rfl⟩ | exact ⟨by omega, hK _ _ ⟨rfl, rfl⟩⟩)) ?_)))
        intro w2 h2
        have k := k _ h2
        rw [decide_eq_false (by rintro rfl; exact hx rfl)] at k
        repeat (any_goals (with_reducible ((refine idCond ?_); refine yL ?_)))
        exact k
  · have hl' : ¬ (a.length : Int) = b.length := by omega
    have k := k _ (Below.refl _ _)
    rw [decide_eq_false (by rintro rfl; exact hl rfl)] at k
    repeat (any_goals (first
    | (with_reducible ((refine idCond ?_); refine yL ?_))
    | ((with_reducible refine idO ?_); (with_reducible refine oM_gen fun Kv hK=>?_); simp [go_sem, hl']; refine hK _ _ ?_; clear hK; clear Kv)))
    exact k
end
end Go.Proofs
namespace Go.Proofs
open Go Go.Sh Go.RowKit FdSpec TkSpec
set_option linter.unusedSimpArgs false
set_option linter.unusedVariables false
set_option maxRecDepth 10000
section
variable {K : Value → World → Prop} {w w0 : World} {L : List (Addr × Value)}
theorem accepts_len {s : Stp} {t : Tkt} {x : Spd} (h : acceptsM s t x = true) : x.answers.length = s.bases.length ∧ validS s = true := by
  unfold acceptsM at h
  split at h
  · rename_i hc
    simp only [Bool.and_eq_true, decide_eq_true_eq] at hc
    refine ⟨hc.1.2, ?_⟩
    have hf := hc.1.1.1
    unfold formedM at hf
    simp only [Bool.and_eq_true] at hf
    exact hf.1.1.1
  · cases h
def gapL (s : Stp) (a b : Spd) : List Int := (a.answers.zip b.answers).map fun p => lessQ s p.1 p.2
theorem gapL_len {s : Stp} {a b : Spd} {n : Nat} (ha : a.answers.length = n) (hb : b.answers.length = n) : (gapL s a b).length = n := by
  simp [gapL, ha, hb]
theorem gapL_at {s : Stp} {a b : Spd} {i : Nat} (ha : i < a.answers.length) (hb : i < b.answers.length) (hg : i < (gapL s a b).length) : (gapL s a b)[i] = lessQ s a.answers[i] b.answers[i] := by
  simp [gapL]
theorem gapL_rng {s : Stp} {a b : Spd} : ∀ n ∈ gapL s a b, I64 n := by
  intro n hn
  obtain ⟨p, _, rfl⟩ := List.mem_map.1 hn
  exact subM_I64 _ _ _
theorem gapsM_no {s : Stp} {t : Tkt} {a b : Spd} (h : a.dare = b.dare ∨ acceptsM s t a = false ∨ acceptsM s t b = false) : gapsM s t a b = ([], false) := by
  unfold gapsM
  rw [if_pos]
  rcases h with h | h | h <;> simp [h]
theorem gapsM_yes {s : Stp} {t : Tkt} {a b : Spd} (h1 : ¬ a.dare = b.dare) (h2 : acceptsM s t a = true) (h3 : acceptsM s t b = true) : gapsM s t a b = (gapL s a b, !decide ((gapL s a b).headD 0 = 0)) := by
  unfold gapsM
  rw [if_neg (by simp [h1, h2, h3])]
  rfl
theorem _root_.Go.Sh.KnM.add1 {g n : Nat} (h : KnM w0 L g n w) {b o : Nat} {v : Value} (hc : w.cell? ⟨b, o, none⟩ = some v) (hne : b ≠ g) : KnM w0 ((⟨b, o, none⟩, v) :: L) g n w :=
  ⟨⟨h.kn.below, hc, h.kn.cells⟩, h.mine, h.base, fun p hp => (List.mem_cons.1 hp).elim (fun e => by rw [e]; exact hne) (h.off p)⟩
theorem store_desk2 {K : Value → World → Prop} {T' : TypeId} {g : Nat} (s : Stp) (ad : Option Addr) (m c : Nat) (hk : KnM w0 L g 5 w)
    (k : ∀ W, KnM w0 L g 5 W → cellsAre W (cellsOf [] g 0 (stpC s (.slice ad m c))) → w.grownBy W (some g) → K undef W) : oM Tryd.prog (.store 67 (.tmp 0) (.tmp 1)) T' [.pointer (some ⟨g, 0, none⟩), stpV s (.slice ad m c)] K w := by
  obtain ⟨W, e, hg, hm, hc⟩ := store_run (P := Tryd.prog) (W := w) sz_desk (x := stpV s (.slice ad m c)) rfl rfl (stp_one s ad m c) hk.mine
  rw [oM_store, e]
  exact k W ⟨hk.kn.wrote hg hk.base hk.off, hm, hk.base, hk.off⟩ hc hg
@[reducible] def zstp : Stp := ⟨⟨0, 0, 0⟩, [], 0⟩
def GpJ (gl : List Int) (Wl : World) (vs : List Value) (w' : World) : Prop := Below Wl.heap.size Wl w' ∧ ∃ (v u o : Value) (i : Nat), vs = [v, u, o, .int .i64 (i : Int)] ∧ i ≤ gl.length ∧ OwnI w' Wl.heap.size o (gl.take i)
theorem gaps_ok (s : Stp) (t : Tkt) (x y : Spd) {v xv yv : Value} (ht : TktR t) (hs : SetR w s v) (hx : SpdR w x xv) (hy : SpdR w y yv)
    (k : ∀ w' s' ad n c ov, Below w.heap.size w w' → Ints w' ov (gapsM s t x y).1 → (∃ ad n c, ov = .slice ad n c ∧ n ≤ c) → ((gapsM s t x y).2 = true → stpV s' (.slice ad n c) = stpV s v) → K (.tuple #[stpV s' (.slice ad n c), ov, .bool (gapsM s t x y).2]) w') : callM Tryd.prog 27 #[stpV s v, tktV t, spdV x xv, spdV y yv] K w := by
  apply sh_27_ok
  unfold sh_27
  obtain ⟨ad, c, rfl⟩ := hs.ints.isSlice
  have hxa := hx.answers
  have hya := hy.answers
  have hx0 := hx
  have hy0 := hy
  obtain ⟨xad, xc, rfl⟩ := hx.answers.isSlice
  obtain ⟨yad, yc, rfl⟩ := hy.answers.isSlice
  have k0 : ∀ w', gapsM s t x y = ([], false) → Below w.heap.size w w' → K (.tuple #[stpV zstp (.slice none 0 0), .slice none 0 0, .bool false]) w' := fun w' e hb => by
    rw [e] at k
    exact k w' zstp none 0 0 _ hb (Ints.nil _) ⟨_, _, _, rfl, Nat.le_refl _⟩ (by simp)
  have k2 : ∀ w' ov l r, gapsM s t x y = (l, r) → Below w.heap.size w w' → Ints w' ov l → (∃ ad n c, ov = .slice ad n c ∧ n ≤ c) → K (.tuple #[stpV s (.slice ad s.bases.length c), ov, .bool r]) w' := fun w' ov l r e hb hi hcp => by
    rw [e] at k
    exact k w' s _ _ _ ov hb hi hcp (fun _ => rfl)
  clear k
  refine box_kn (cs := stpC s (.slice ad s.bases.length c)) rfl (.start w) fun b1 W hk hb1 hbb => ?_
  refine box_kn (cs := tktC t) rfl hk fun b2 W2 hk hb2 hbb => ?_
  refine box_kn (cs := spdC x (.slice xad x.answers.length xc)) rfl hk fun b3 W3 hk hb3 hbb => ?_
  refine box_kn (cs := spdC y (.slice yad y.answers.length yc)) rfl hk fun b4 W4 hk hb4 hbb => ?_
  refine alloc_mine (n := 5) al_desk rfl hk fun g W2 hk hb2 hg => ?_
  clear hb1 hb2 hb3 hb4
  by_cases hd : x.dare = y.dare
  · repeat (any_goals (first
    | (with_reducible first|((refine idGd ?_); refine zD ?_)|((refine idPick ?_); refine yB ?_)|((refine idCond ?_); refine yL ?_))
    | ((with_reducible refine idO ?_); (with_reducible refine oM_gen fun Kv hK=>?_); simp [go_sem, hk.cells, hd]; refine hK _ _ ?_; clear hK; clear Kv)))
    exact store_desk zstp none 0 0 hk (fun W3 hk hc => ⟨_, by simp [go_sem, hc], k0 _ (gapsM_no (.inl hd)) hk.below⟩)
  repeat (any_goals (first
  | (with_reducible ((refine idGd ?_); refine zC ?_))
  | ((with_reducible refine idO ?_); (with_reducible refine oM_gen fun Kv hK=>?_); simp [go_sem, hk.cells, hd]; refine hK _ _ ?_; clear hK; clear Kv)))
  refine Accepts_ok s t x ht (hs.next hk.below) (hx0.next hk.below) (fun w2 h2 => ?_)
  have hk := hk.next h2
  cases ha : acceptsM s t x with
  | false =>
    repeat (any_goals (first
    | (with_reducible first|((refine idGd ?_); first|refine zC ?_|refine zD ?_)|((refine idPick ?_); first|refine yB ?_|refine yC ?_)|((refine idCond ?_); refine yL ?_))
    | ((with_reducible refine idO ?_); (with_reducible refine oM_gen fun Kv hK=>?_); simp [go_sem, hk.cells]; refine hK _ _ ?_; clear hK; clear Kv)))
    exact store_desk zstp none 0 0 hk (fun W3 hk hc => ⟨_, by simp [go_sem, hc], k0 _ (gapsM_no (.inr (.inl ha))) hk.below⟩)
  | true =>
    repeat (any_goals (first
    | (with_reducible first|((refine idGd ?_); refine zC ?_)|((refine idPick ?_); refine yC ?_))
    | ((with_reducible refine idO ?_); (with_reducible refine oM_gen fun Kv hK=>?_); simp [go_sem, hk.cells]; refine hK _ _ ?_; clear hK; clear Kv)))
    refine Accepts_ok s t y ht (hs.next hk.below) (hy0.next hk.below) (fun w3 h3 => ?_)
    have hk := hk.next h3
    cases hb : acceptsM s t y with
    | false =>
      repeat (any_goals (first
      | (with_reducible first|((refine idGd ?_); refine zC ?_)|((refine idPick ?_); refine yC ?_)|((refine idCond ?_); refine yL ?_))
      | ((with_reducible refine idO ?_); (with_reducible refine oM_gen fun Kv hK=>?_); simp [go_sem, hk.cells]; refine hK _ _ ?_; clear hK; clear Kv)))
      exact store_desk zstp none 0 0 hk (fun W3 hk hc => ⟨_, by simp [go_sem, hc], k0 _ (gapsM_no (.inr (.inr hb))) hk.below⟩)
    | true =>
      have e0 := gapsM_yes hd ha hb
      obtain ⟨l1, hv⟩ := accepts_len ha
      obtain ⟨l2, _⟩ := accepts_len hb
      have hv7 := validS_len hv
      have hgl := gapL_len (s := s) l1 l2
      have hat := fun i h1 h2 h3 => gapL_at (s := s) (a := x) (b := y) (i := i) h1 h2 h3
      have hrng := gapL_rng (s := s) (a := x) (b := y)
      generalize gapL s x y = gl at *
      repeat (any_goals (first
      | ((with_reducible refine local_desk s ad s.bases.length c hk ?_); intro b7 W7 hk hb7 hg7)
      | (with_reducible first|((refine idGd ?_); refine zC ?_)|((refine idPick ?_); refine yC ?_)|((refine idCond ?_); refine yM ?_))
      | ((with_reducible refine idO ?_); (with_reducible refine oM_gen fun Kv hK=>?_); simp [go_sem, hk.cells]; refine hK _ _ ?_; clear hK; clear Kv)))
      have hgW : g < W7.heap.size := mine_lt hk.mine
      have hk0 := hk
      refine ⟨GpJ gl W7, pdMu x.answers.length, ⟨Below.refl _ _, _, _, _, 0, rfl, by omega, World.ownsRow_nil _ _ _ _⟩, ?_⟩
      rintro _ _ w5 ⟨h5, u1, u2, o, i, rfl, hi, ho⟩
      have hk := hk.next h5
      by_cases hin : i = x.answers.length
      · rw [List.take_of_length_le (by omega)] at ho
        have hints := ho.ints hrng (by omega)
        obtain ⟨g', cap, cur, rfl, hlt, hB, _, _, hcp, hcell⟩ := owns_cells ho (by omega)
        obtain ⟨x0, hx0⟩ : ∃ x0, gl.headD 0 = x0 := ⟨_, rfl⟩
        rw [hx0] at e0
        have c8 : w5.cell? ⟨g', 0, none⟩ = some (.int .i64 x0) := hcell 0 _ (by
          rw [flat_int, ← hx0]
          cases hgl2 : gl with
          | nil => rw [hgl2] at hgl; simp at hgl; omega
          | cons a l => rfl)
        have hk := hk.add1 c8 (by omega)
        have hgl8 : 0 < gl.length := by omega
        repeat (any_goals (first
        | (with_reducible ((refine idCond ?_); refine yO ?_))
        | ((with_reducible refine idO ?_); (with_reducible refine oM_gen fun Kv hK=>?_); simp [go_sem]; refine hK _ _ ?_; clear hK; clear Kv)))
        refine ⟨KnM w _ g 5, hk.drew, ?_⟩
        have hints := hints.next .drawn
        have hk := hk.drew
        repeat (any_goals (first
        | (with_reducible refine And.intro hk ?_)
        | (with_reducible refine pureH_in ?_)
        | ((with_reducible refine idOH ?_); (with_reducible refine oH_of ⟨_, rfl⟩ (fun W0 hW0 => by (refine oM_gen (fun Kv hK => ?_)); simp [go_sem, hW0.cells]; (first | exact hK _ _ ⟨rfl, rfl⟩ | exact ⟨by omega, hK _ _ ⟨rfl, rfl⟩⟩)) ?_))))
        refine store_desk2 s ad _ c hk (fun W3 hk hc hgr => ⟨hk, hk, hk, _, by simp [go_sem, hc], k2 _ _ _ _ e0 hk.below ⟨hints.row.keep hgr.size (fun i hi hlt => hgr.block i hlt ?_), hrng, by omega⟩ ⟨_, _, _, rfl, hcp⟩⟩)
        cases hi
        intro e
        have e2 : g' = g := Option.some.inj e
        omega
      · obtain ⟨b1, o1, rfl, hb1, ca, ra, _⟩ := hxa.at (i := i) (by omega)
        obtain ⟨b2, o2, rfl, hb2, cb, rb, _⟩ := hya.at (i := i) (by omega)
        repeat (any_goals (first
        | (with_reducible ((refine idCond ?_); refine yN ?_))
        | ((with_reducible refine idO ?_); (with_reducible refine oM_gen fun Kv hK=>?_); simp [go_sem, ca _ hk.below, hk.cells]; (first|refine hK _ _ ?_|refine And.intro (by omega) (hK _ _ ?_)); clear hK; clear Kv)))
        refine ⟨KnM w _ g 5, hk.drew, ?_⟩
        have h5 := h5.trans (Below.drawn (w := w5))
        have ho := ho.keep (Below.drawn (w := w5))
        have hk := hk.drew
        repeat (any_goals (first
        | (with_reducible refine And.intro hk ?_)
        | (with_reducible refine pureH_in ?_)
        | ((with_reducible refine idOH ?_); (with_reducible refine oH_of ⟨_, rfl⟩ (fun W0 hW0 => by (refine oM_gen (fun Kv hK => ?_)); simp [go_sem, hW0.cells, cb _ hW0.below]; (first | exact hK _ _ ⟨rfl, rfl⟩ | exact ⟨by omega, hK _ _ ⟨rfl, rfl⟩⟩)) ?_))))
        refine less_ok s _ _ (hs.next hk.below) (fun w6 h6 => ?_)
        have hk := hk.next h6
        have ho := ho.keep h6
        have h5 := h5.on h6
        refine ⟨hk, mk1 _ (subM_I64 _ _ _) (fun v7 w7 h7 hi7 => ?_)⟩
        have hk := hk.next h7
        have ho := ho.keep h7
        have h5 := h5.on h7
        refine ⟨hk, append1 ho h5.size hi7 (by simp; omega) (fun v8 w8 ho8 h8 => ?_)⟩
        have h5 := h5.trans h8
        have hk := hk0.next h5
        refine ⟨hk, ?_⟩
        repeat (any_goals (first
        | (with_reducible refine And.intro hk ?_)
        | ((with_reducible refine idO ?_); (with_reducible refine oM_gen fun Kv hK=>?_); simp [go_sem]; (try simp (disch := omega) only [wrapI64, wrapU8, wrapU32, wrapU64]); refine hK _ _ ?_; clear hK; clear Kv)))
        refine ⟨⟨h5, _, _, _, i + 1, rfl, by omega, ?_⟩, ?_⟩
        · rw [List.take_succ_eq_append_getElem (by omega), hat i (by omega) (by omega) (by omega)]
          exact ho8
        · simp only [pdMu_eq]; omega
end
end Go.Proofs
namespace Go.Proofs
open Go Go.Sh Go.RowKit FdSpec TkSpec
set_option linter.unusedSimpArgs false
set_option linter.unusedVariables false
set_option maxRecDepth 10000
section
variable {K : Value → World → Prop} {w w0 : World} {L : List (Addr × Value)}
theorem _root_.Go.Sh.Ints.tail {b o n c : Nat} {l : List Int} (h : Ints w (.slice (some ⟨b, o, none⟩) n c) l) (hne : 0 < l.length) : Ints w (.slice (some ⟨b, o + 1, none⟩) (n - 1) (c - 1)) l.tail := by
  obtain ⟨⟨ad, c', hv, h0, hc⟩, hr, hl⟩ := h
  cases hv
  refine ⟨⟨some ⟨b, o + 1, none⟩, c - 1, by rw [List.length_tail], by simp, ?_⟩, fun n hn => hr n (List.mem_of_mem_tail hn), by rw [List.length_tail]; omega⟩
  rcases hc with rfl | ⟨b', o', hbo, hlt, hcell⟩
  · simp at hne
  · cases hbo
    refine .inr ⟨b, o + 1, rfl, hlt, fun k x hk => ?_⟩
    have := hcell (k + 1) x (by
      rw [flat_int] at hk ⊢
      rw [← hk]
      simp)
    rw [show o + 1 + k = o + (k + 1) by omega]
    exact this
theorem traceM_no {s : Stp} {t : Tkt} {a b : Spd} (h : (gapsM s t a b).2 = false) : traceM s t a b = ([], false) := by
  unfold traceM; rw [if_neg (by simp [h])]
theorem gapsM_len {s : Stp} {t : Tkt} {a b : Spd} (h : (gapsM s t a b).2 = true) : (gapsM s t a b).1.length = s.bases.length ∧ validS s = true := by
  by_cases h1 : a.dare = b.dare
  · rw [gapsM_no (.inl h1)] at h; cases h
  cases h2 : acceptsM s t a with
  | false => rw [gapsM_no (.inr (.inl h2))] at h; cases h
  | true =>
    cases h3 : acceptsM s t b with
    | false => rw [gapsM_no (.inr (.inr h3))] at h; cases h
    | true =>
      rw [gapsM_yes h1 h2 h3]
      obtain ⟨l1, hv⟩ := accepts_len h2
      obtain ⟨l2, _⟩ := accepts_len h3
      exact ⟨gapL_len l1 l2, hv⟩
def TrJ (n : Nat) (tl : List Int) (Wl : World) (vs : List Value) (w' : World) : Prop := Below Wl.heap.size Wl w' ∧ ∃ (v o : Value) (i : Nat), vs = [v, o, .int .i64 (i : Int)] ∧ i ≤ n ∧ OwnI w' Wl.heap.size o (tl.take i)
theorem Trace_ok (s : Stp) (t : Tkt) (x y : Spd) {v xv yv : Value} (ht : TktR t) (hs : SetR w s v) (hx : SpdR w x xv) (hy : SpdR w y yv)
    (k : ∀ w' ov, Below w.heap.size w w' → Ints w' ov (traceM s t x y).1 → K (.tuple #[ov, .bool (traceM s t x y).2]) w') : callM Tryd.prog 7 #[stpV s v, tktV t, spdV x xv, spdV y yv] K w := by
  apply sh_7_ok
  unfold sh_7
  obtain ⟨ad, c, rfl⟩ := hs.ints.isSlice
  have hx0 := hx
  have hy0 := hy
  obtain ⟨xad, xc, rfl⟩ := hx.answers.isSlice
  obtain ⟨yad, yc, rfl⟩ := hy.answers.isSlice
  have k2 : ∀ w' ov r, traceM s t x y = r → Below w.heap.size w w' → Ints w' ov r.1 → K (.tuple #[ov, .bool r.2]) w' := fun w' ov r e hb hi => by
    rw [← e] at hi ⊢
    exact k w' ov hb hi
  clear k
  refine box_kn (cs := stpC s (.slice ad s.bases.length c)) rfl (.start w) fun b1 W hk hb1 hbb => ?_
  refine box_kn (cs := tktC t) rfl hk fun b2 W2 hk hb2 hbb => ?_
  refine box_kn (cs := spdC x (.slice xad x.answers.length xc)) rfl hk fun b3 W3 hk hb3 hbb => ?_
  refine box_kn (cs := spdC y (.slice yad y.answers.length yc)) rfl hk fun b4 W4 hk hb4 hbb => ?_
  clear hb1 hb2 hb3 hb4
  repeat (any_goals ((with_reducible refine idO ?_); (with_reducible refine oM_gen fun Kv hK=>?_); simp [go_sem, hk.cells]; refine hK _ _ ?_; clear hK; clear Kv))
  refine gaps_ok s t x y ht (hs.next hk.below) (hx0.next hk.below) (hy0.next hk.below) (fun w2 s' ad' n' c' ov h2 hgi hcap hds => ?_)
  have hk := hk.next h2
  have hT := traceM_no (s := s) (t := t) (a := x) (b := y)
  have hG := gapsM_len (s := s) (t := t) (a := x) (b := y)
  have eT : (gapsM s t x y).2 = true → traceM s t x y = ((gapsM s t x y).1.tail.map fun n => overQ s n ((gapsM s t x y).1.headD 0), true) := fun h => by unfold traceM; rw [if_pos h]
  obtain ⟨⟨gl, u⟩, hg⟩ : ∃ p, gapsM s t x y = p := ⟨_, rfl⟩
  rw [hg] at hT hG eT hgi hds ⊢
  simp only at hT hG eT hgi hds ⊢
  cases u with
  | false =>
    repeat (any_goals (first
    | ((with_reducible refine local_desk' s' ad' n' c' hk ?_); intro b7 W7 hk hb7 hg7)
    | (with_reducible ((refine idCond ?_); refine yL ?_))
    | ((with_reducible refine idO ?_); (with_reducible refine oM_gen fun Kv hK=>?_); simp [go_sem, hk.cells]; refine hK _ _ ?_; clear hK; clear Kv)))
    exact k2 _ _ _ (hT rfl) hk.below (Ints.nil _)
  | true =>
    have hds := hds rfl
    obtain ⟨hG, hv⟩ := hG rfl
    have hv7 := validS_len hv
    have eT2 := eT rfl
    clear eT
    rw [hds]
    obtain ⟨oad, n0, oc, rfl, hcp⟩ := hcap
    obtain ⟨ob, oo, rfl, c8, r8⟩ := hgi.headD (by omega)
    obtain ⟨oad2, oc2, hoe⟩ := hgi.isSlice
    cases hoe
    obtain ⟨x0, hx0⟩ : ∃ x0, gl.headD 0 = x0 := ⟨_, rfl⟩
    rw [hx0] at c8 r8 eT2
    repeat (any_goals (first
    | ((with_reducible refine local_desk' s ad s.bases.length c hk ?_); intro b7 W7 hk hb7 hg7)
    | (with_reducible ((refine idCond ?_); refine yM ?_))
    | ((with_reducible refine idO ?_); (with_reducible refine oM_gen fun Kv hK=>?_); simp [go_sem, hk.cells]; refine hK _ _ ?_; clear hK; clear Kv)))
    refine sliceFrom_at (by kernel_rfl) (sz := 1) (fun w => by kernel_rfl) 1 (by omega) (by omega) ?_
    have hti := (hgi.tail (by omega)).next hb7
    have c8 := fun w' hb => c8 w' (hb7.on hb)
    have htl : gl.tail.length = gl.length - 1 := List.length_tail
    have hat : ∀ (i : Nat) (y : Int), gl.tail[i]? = some y → (gl.tail.map fun n => overQ s n x0)[i]? = some (overQ s y x0) := fun i y h => by rw [List.getElem?_map, h]; rfl
    have hml : (gl.tail.map fun n => overQ s n x0).length = gl.tail.length := by simp
    have hrng : ∀ n ∈ (gl.tail.map fun n => overQ s n x0), I64 n := by
      intro n hn
      obtain ⟨m, _, rfl⟩ := List.mem_map.1 hn
      exact mulQ_I64 _ _ _ (by simp)
    generalize (gl.tail.map fun n => overQ s n x0) = tl at *
    generalize gl.tail = gt at *
    repeat (any_goals ((with_reducible refine idO ?_); (with_reducible refine oM_gen fun Kv hK=>?_); simp [go_sem]; refine hK _ _ ?_; clear hK; clear Kv))
    refine ⟨TrJ gt.length tl W7, vsMu gt.length, ⟨Below.refl _ _, _, _, 0, rfl, by omega, World.ownsRow_nil _ _ _ _⟩, ?_⟩
    have hk0 := hk
    rintro _ _ w5 ⟨h5, u1, o, i, rfl, hi, ho⟩
    have hk := hk0.next h5
    by_cases hin : i = gt.length
    · rw [List.take_of_length_le (by omega)] at ho
      repeat (any_goals (first
      | (with_reducible ((refine idCond ?_); refine yO ?_))
      | ((with_reducible refine idO ?_); (with_reducible refine oM_gen fun Kv hK=>?_); simp [go_sem]; refine hK _ _ ?_; clear hK; clear Kv)))
      exact k2 _ _ _ eT2 hk.below (ho.ints hrng (by omega))
    · obtain ⟨b1, o1, hbe, hb1, ca, ra, hnn⟩ := hti.at (i := i) (by omega)
      cases hbe
      repeat (any_goals (first
      | (with_reducible ((refine idCond ?_); refine yN ?_))
      | ((with_reducible refine idO ?_); (with_reducible refine oM_gen fun Kv hK=>?_); simp [go_sem, ca _ h5]; (first|refine hK _ _ ?_|refine And.intro (by omega) (hK _ _ ?_)); clear hK; clear Kv)))
      refine ⟨fun w' => Kn w _ w' ∧ Below W7.heap.size W7 w', ⟨hk.drew, h5.trans .drawn⟩, ?_⟩
      have h5 := h5.trans (Below.drawn (w := w5))
      have ho := ho.keep (Below.drawn (w := w5))
      have hk := hk.drew
      have hgl8 : 0 < gl.length := by omega
      repeat (any_goals (first
      | (with_reducible refine pureH_in ?_)
      | ((with_reducible refine idOH ?_); (with_reducible refine oH_of ⟨_, rfl⟩ (fun W0 hW0 => by (refine oM_gen (fun Kv hK => ?_)); simp [go_sem, hW0.1.cells, c8 _ hW0.2]; (first | exact hK _ _ ⟨rfl, rfl⟩ | exact ⟨by omega, hK _ _ ⟨rfl, rfl⟩⟩)) ?_))))
      refine over_ok s _ _ (hs.next hk.below) (fun w6 h6 => ?_)
      have hk := hk.next h6
      have ho := ho.keep h6
      have h5 := h5.on h6
      refine ⟨⟨hk, h5⟩, mk1 _ (mulQ_I64 _ _ _ (by simp)) (fun v7 w7 h7 hi7 => ?_)⟩
      have hk := hk.next h7
      have ho := ho.keep h7
      have h5 := h5.on h7
      refine ⟨⟨hk, h5⟩, append1 ho h5.size hi7 (by simp; omega) (fun v8 w8 ho8 h8 => ?_)⟩
      have h5 := h5.trans h8
      have hk := hk0.next h5
      refine ⟨⟨hk, h5⟩, ⟨hk, h5⟩, ?_⟩
      repeat (any_goals ((with_reducible refine idO ?_); (with_reducible refine oM_gen fun Kv hK=>?_); simp [go_sem]; (try simp (disch := omega) only [wrapI64, wrapU8, wrapU32, wrapU64]); refine hK _ _ ?_; clear hK; clear Kv))
      refine ⟨⟨h5, _, _, i + 1, rfl, by omega, ?_⟩, ?_⟩
      · have e2 : tl.take (i + 1) = tl.take i ++ [overQ s gt[i] x0] := by
          rw [List.take_add_one, hat i _ (List.getElem?_eq_getElem (by omega))]
          rfl
        rw [e2]
        exact ho8
      · simp only [vsMu_eq]; omega
end
end Go.Proofs
namespace Go.Proofs
open Go Go.Sh Go.RowKit FdSpec TkSpec
set_option linter.unusedSimpArgs false
set_option linter.unusedVariables false
set_option maxRecDepth 10000
section
variable {K : Value → World → Prop} {w w0 : World} {L : List (Addr × Value)}
theorem guiltyM_no {s : Stp} {t : Tkt} {a b : Spd} {l : List Int} (h : (gapsM s t a b).2 = false ∨ l.length + 1 ≠ (gapsM s t a b).1.length ∨ numsM s 0 l = false) : guiltyM s t a b l = false := by
  unfold guiltyM
  rw [if_neg]
  rcases h with h | h | h <;> simp [h]
def GuJ (ps : List (Int × Int)) (f : Int × Int → Bool) (R : Bool) (Wl : World) (vs : List Value) (w' : World) : Prop := Below Wl.heap.size Wl w' ∧ ∃ (v u o : Value) (i : Nat), vs = [v, u, o, .int .i64 (i : Int)] ∧ i ≤ ps.length ∧ (ps.drop i).all f = R
theorem Guilty_ok (s : Stp) (t : Tkt) (x y : Spd) {v xv yv lv : Value} {l : List Int} (ht : TktR t) (hs : SetR w s v) (hx : SpdR w x xv) (hy : SpdR w y yv) (hl : Ints w lv l)
    (k : ∀ w', Below w.heap.size w w' → K (.bool (guiltyM s t x y l)) w') : callM Tryd.prog 15 #[stpV s v, tktV t, spdV x xv, spdV y yv, lv] K w := by
  apply sh_15_ok
  unfold sh_15
  obtain ⟨ad, c, rfl⟩ := hs.ints.isSlice
  have hx0 := hx
  have hy0 := hy
  obtain ⟨xad, xc, rfl⟩ := hx.answers.isSlice
  obtain ⟨yad, yc, rfl⟩ := hy.answers.isSlice
  obtain ⟨lad, lc, rfl⟩ := hl.isSlice
  have hll := hl.len
  have k2 : ∀ w' r, guiltyM s t x y l = r → Below w.heap.size w w' → K (.bool r) w' := fun w' r e hb => by
    rw [← e]
    exact k w' hb
  clear k
  refine box_kn (cs := stpC s (.slice ad s.bases.length c)) rfl (.start w) fun b1 W hk hb1 hbb => ?_
  refine box_kn (cs := tktC t) rfl hk fun b2 W2 hk hb2 hbb => ?_
  refine box_kn (cs := spdC x (.slice xad x.answers.length xc)) rfl hk fun b3 W3 hk hb3 hbb => ?_
  refine box_kn (cs := spdC y (.slice yad y.answers.length yc)) rfl hk fun b4 W4 hk hb4 hbb => ?_
  clear hb1 hb2 hb3 hb4
  repeat (any_goals ((with_reducible refine idO ?_); (with_reducible refine oM_gen fun Kv hK=>?_); simp [go_sem, hk.cells]; refine hK _ _ ?_; clear hK; clear Kv))
  refine gaps_ok s t x y ht (hs.next hk.below) (hx0.next hk.below) (hy0.next hk.below) (fun w2 s' ad' n' c' ov h2 hgi hcap hds => ?_)
  have hk := hk.next h2
  have hN := guiltyM_no (s := s) (t := t) (a := x) (b := y) (l := l)
  have hG := gapsM_len (s := s) (t := t) (a := x) (b := y)
  have eT : (gapsM s t x y).2 = true → l.length + 1 = (gapsM s t x y).1.length → numsM s 0 l = true → guiltyM s t x y l = (l.zip (gapsM s t x y).1.tail).all fun p => decide (mulQ s p.1 [(gapsM s t x y).1.headD 0] = p.2) := fun h1 h2 h3 => by
    unfold guiltyM; rw [if_pos (by rw [h1, h3, decide_eq_true h2]; rfl)]
  obtain ⟨⟨gl, u⟩, hg⟩ : ∃ p, gapsM s t x y = p := ⟨_, rfl⟩
  rw [hg] at hN hG eT hgi hds ⊢
  simp only at hN hG eT hgi hds ⊢
  obtain ⟨oad0, oc0, rfl⟩ := hgi.isSlice
  have hgl := hgi.len
  cases u with
  | false =>
    repeat (any_goals (first
    | ((with_reducible refine local_desk' s' ad' n' c' hk ?_); intro b7 W7 hk hb7 hg7)
    | (with_reducible first|((refine idGd ?_); refine zD ?_)|((refine idPick ?_); refine yB ?_)|((refine idCond ?_); refine yL ?_))
    | ((with_reducible refine idO ?_); (with_reducible refine oM_gen fun Kv hK=>?_); simp [go_sem, hk.cells]; refine hK _ _ ?_; clear hK; clear Kv)))
    exact k2 _ _ (hN (.inl rfl)) hk.below
  | true =>
    have hds := hds rfl
    obtain ⟨hG, hv⟩ := hG rfl
    have hv7 := validS_len hv
    rw [hds]
    by_cases hlen : l.length + 1 = gl.length
    · repeat (any_goals (first
      | ((with_reducible refine local_desk' s ad s.bases.length c hk ?_); intro b7 W7 hk hb7 hg7)
      | (with_reducible first|refine pureM_in ?_|((refine idGd ?_); first|refine zC ?_|((refine idGdN ?_); refine zO ?_))|((refine idPick ?_); refine yC ?_))
      | ((with_reducible refine idO ?_); (with_reducible refine oM_gen fun Kv hK=>?_); simp [go_sem, hk.cells]; (try simp (disch := omega) only [wrapI64, wrapU8, wrapU32, wrapU64]); refine hK _ _ ?_; clear hK; clear Kv)))
      have hk0 := hk
      refine nums_ok s 0 (hs.next hk.below) (hl.next hk.below) (fun w3 h3 => ?_)
      have hk := hk.next h3
      cases hn : numsM s 0 l with
      | false =>
        repeat (any_goals (first
        | (with_reducible first|((refine idGd ?_); ((refine idGdN ?_); refine zO ?_))|((refine idPick ?_); refine yG ?_)|((refine idCond ?_); refine yL ?_))
        | ((with_reducible refine idO ?_); (with_reducible refine oM_gen fun Kv hK=>?_); simp [go_sem, hk.cells]; refine hK _ _ ?_; clear hK; clear Kv)))
        exact k2 _ _ (hN (.inr (.inr hn))) hk.below
      | true =>
        have eT2 := eT rfl hlen hn
        obtain ⟨x0, hx0⟩ : ∃ x0, gl.headD 0 = x0 := ⟨_, rfl⟩
        obtain ⟨ob, oo, rfl, c8, r8⟩ := hgi.headD (by omega)
        rw [hx0] at c8 r8 eT2
        have c8 := fun w' hb => c8 w' (hb7.on (h3.on hb))
        have hgi3 := (hgi.next hb7).next h3
        have hzl : (l.zip gl.tail).length = l.length := by simp; omega
        repeat (any_goals (first
        | (with_reducible first|((refine idGd ?_); ((refine idGdN ?_); refine zO ?_))|((refine idPick ?_); refine yG ?_)|((refine idCond ?_); refine yM ?_))
        | ((with_reducible refine idO ?_); (with_reducible refine oM_gen fun Kv hK=>?_); simp [go_sem, hk.cells]; refine hK _ _ ?_; clear hK; clear Kv)))
        refine ⟨GuJ (l.zip gl.tail) (fun p => decide (mulQ s p.1 [x0] = p.2)) _ w3, pdMu l.length, ⟨Below.refl _ _, _, _, _, 0, rfl, by omega, rfl⟩, ?_⟩
        have hk0 := hk
        rintro _ _ w5 ⟨h5, u1, u2, u3, i, rfl, hi, hall⟩
        rw [hzl] at hi
        have hk := hk0.next h5
        by_cases hin : i = l.length
        · rw [List.drop_of_length_le (by omega), List.all_nil] at hall
          repeat (any_goals (first
          | (with_reducible ((refine idCond ?_); refine yO ?_))
          | ((with_reducible refine idO ?_); (with_reducible refine oM_gen fun Kv hK=>?_); simp [go_sem]; refine hK _ _ ?_; clear hK; clear Kv)))
          exact k2 _ _ (eT2.trans hall.symm) hk.below
        · rw [zip_drop l gl.tail i (by omega) (by rw [List.length_tail]; omega), List.all_cons] at hall
          simp only [List.getElem_tail] at hall
          obtain ⟨b1, o1, rfl, hb1, ca, ra, _⟩ := hl.at (i := i) (by omega)
          obtain ⟨b2, o2, hbe, hb2, cb, rb, _⟩ := hgi3.at (i := i + 1) (by omega)
          cases hbe
          repeat (any_goals (first
          | (with_reducible ((refine idCond ?_); refine yN ?_))
          | ((with_reducible refine idO ?_); (with_reducible refine oM_gen fun Kv hK=>?_); simp [go_sem, ca _ hk.below, hk.cells]; (first|refine hK _ _ ?_|refine And.intro (by omega) (hK _ _ ?_)); clear hK; clear Kv)))
          refine ⟨fun w' => Kn w _ w' ∧ Below w3.heap.size w3 w', ⟨hk.drew, h5.trans .drawn⟩, ?_⟩
          have h5 := h5.trans (Below.drawn (w := w5))
          have hk := hk.drew
          have hgl8 : 0 < gl.length := by omega
          have e7 : IntKind.i64.wrap ((i : Int) + 1) = ((i + 1 : Nat) : Int) := by rw [wrapI64 _ (by omega) (by omega)]; omega
          repeat (any_goals (first
          | ((with_reducible refine mk1 x0 r8 ?_); intro v7 w7 h7 hi7)
          | (with_reducible refine pureH_in ?_)
          | ((with_reducible refine idOH ?_); (with_reducible refine oH_of ⟨_, rfl⟩ (fun W0 hW0 => by (refine oM_gen (fun Kv hK => ?_)); simp [go_sem, hW0.1.cells, c8 _ hW0.2, e7, cb _ hW0.2]; (first | exact hK _ _ ⟨rfl, rfl⟩ | exact ⟨by omega, hK _ _ ⟨rfl, rfl⟩⟩)) ?_))))
          have hk := hk.next h7
          have h5 := h5.on h7
          refine ⟨⟨hk, h5⟩, mul_ok s _ (hs.next hk.below) hi7 (fun w8 h8 => ?_)⟩
          have hk := hk.next h8
          have h5 := h5.on h8
          refine ⟨⟨hk, h5⟩, ?_⟩
          by_cases he : mulQ s l[i] [x0] = gl[i + 1]
          · repeat (any_goals ((with_reducible refine idO ?_); (with_reducible refine oM_gen fun Kv hK=>?_); simp [go_sem]; refine hK _ _ ?_; clear hK; clear Kv))
            refine ⟨⟨hk, h5⟩, ?_⟩
            repeat (any_goals (first
            | (with_reducible ((refine idCond ?_); refine yR ?_))
            | ((with_reducible refine idO ?_); (with_reducible refine oM_gen fun Kv hK=>?_); simp [go_sem, he]; (try simp (disch := omega) only [wrapI64, wrapU8, wrapU32, wrapU64]); refine hK _ _ ?_; clear hK; clear Kv)))
            rw [decide_eq_true he, Bool.true_and] at hall
            refine ⟨⟨h5, _, _, _, i + 1, rfl, by omega, hall⟩, ?_⟩
            simp only [pdMu_eq]; omega
          · repeat (any_goals ((with_reducible refine idO ?_); (with_reducible refine oM_gen fun Kv hK=>?_); simp [go_sem]; refine hK _ _ ?_; clear hK; clear Kv))
            refine ⟨⟨hk, h5⟩, ?_⟩
            repeat (any_goals (with_reducible ((refine idCond ?_); refine yQ ?_)))
            rw [decide_eq_false he, Bool.false_and] at hall
            exact k2 _ _ (eT2.trans hall.symm) hk.below
    · repeat (any_goals (first
      | ((with_reducible refine local_desk' s ad s.bases.length c hk ?_); intro b7 W7 hk hb7 hg7)
      | (with_reducible first|refine pureM_in ?_|((refine idGd ?_); first|refine zC ?_|((refine idGdN ?_); refine zP ?_))|((refine idPick ?_); first|refine yC ?_|refine yF ?_)|((refine idCond ?_); refine yL ?_))
      | ((with_reducible refine idO ?_); (with_reducible refine oM_gen fun Kv hK=>?_); simp [go_sem, hk.cells]; (try simp (disch := omega) only [wrapI64, wrapU8, wrapU32, wrapU64]); refine hK _ _ ?_; clear hK; clear Kv)))
      exact k2 _ _ (hN (.inr (.inl hlen))) hk.below
end
end Go.Proofs
namespace Go.Proofs
open Go Go.Sh Go.RowKit FdSpec TkSpec
set_option linter.unusedSimpArgs false
set_option linter.unusedVariables false
set_option maxRecDepth 10000
section
variable {K : Value → World → Prop} {w w0 w1 : World} {L : List (Addr × Value)}
theorem sz_spd (w : World) : (sizeOf 30).run Tryd.prog w = .ok 2 w := by kernel_rfl
theorem sz_ints (w : World) : (sizeOf 24).run Tryd.prog w = .ok 1 w := by kernel_rfl
theorem al_spd (w : World) : (Instr.alloc 30 true (.tuple #[])).run Tryd.prog w = .ok (.pointer (some ⟨w.heap.size, 0, none⟩)) (w.alloc (.cells [.int .i64 0, .slice none 0 0].toArray 30)) := by kernel_rfl
theorem spd_one (x : Spd) (ad : Option Addr) (n c : Nat) : ∀ u ∈ spdC x (.slice ad n c), u.oneCell' = true := by
  intro u hu
  simp only [spdC, List.mem_cons, List.not_mem_nil, or_false] at hu
  rcases hu with rfl | rfl <;> rfl
theorem store_spd {K : Value → World → Prop} {T' : TypeId} {g : Nat} (x : Spd) (ad : Option Addr) (m c : Nat) (hk : KnM w0 L g 2 w)
    (k : ∀ W, KnM w0 L g 2 W → cellsAre W (cellsOf [] g 0 (spdC x (.slice ad m c))) → w.grownBy W (some g) → K undef W) : oM Tryd.prog (.store 30 (.tmp 0) (.tmp 1)) T' [.pointer (some ⟨g, 0, none⟩), spdV x (.slice ad m c)] K w := by
  obtain ⟨W, e, hg, hm, hc⟩ := store_run (P := Tryd.prog) (W := w) sz_spd (x := spdV x (.slice ad m c)) rfl rfl (spd_one x ad m c) hk.mine
  rw [oM_store, e]
  exact k W ⟨hk.kn.wrote hg hk.base hk.off, hm, hk.base, hk.off⟩ hc hg
theorem store_row {P : Program} {T T0 : TypeId} {g o n : Nat} {cur : Array Value} {x : Value} {xs : List Value} (hT : ∀ w, (sizeOf T).run P w = .ok n w) (hx : x.cells = xs.toArray) (hl : xs.length = n) (h1 : ∀ u ∈ xs, u.oneCell' = true) (hg : w.heap[g]? = some (.cells cur T0 (0, 0))) (hfit : o + n ≤ cur.size) :
    (Instr.storeAt T (.pointer (some ⟨g, o, none⟩)) x).run P w = .ok () (w.setRow g (cur.toList.take o ++ xs ++ cur.toList.drop (o + xs.length)).toArray) := by
  have hst := run_storeCells_at P g o T0 xs 0 cur w hg (by omega) h1
  rw [Nat.add_zero] at hst
  unfold Instr.storeAt storeVar
  have e2 : x.cells.toList = xs := by rw [hx]
  have e3 : x.cells.size = n := by rw [hx]; simpa using hl
  rw [e2, e3]
  rw [List.append_assoc] at hst ⊢
  simp [hT, go_sem]
  exact hst
theorem local_spd {K : Value → World → Prop} {T' T2 : TypeId} {g n : Nat} (x : Spd) (hk : KnM w0 L g n w)
    (k : ∀ b W, KnM w0 L g n W → Below w.heap.size w W → w.heap.size ≤ b → W.heap[b]? = some (.cells #[.int .i64 x.dare, .slice none 0 0] 30 (0, 0)) → K (.pointer (some ⟨b, 0, none⟩)) W) :
    oM Tryd.prog (.alloc 30) T' [] (fun v w => oM Tryd.prog (.store 30 (.tmp 0) (.tmp 1)) T2 [v, spdV x (.slice none 0 0)] (fun _ w => K v w) w) w := by
  rw [oM_alloc, al_spd, rM_ok]
  have hb := (Below.refl w.heap.size w).alloc (Nat.le_refl _) (.cells [Value.int .i64 0, .slice none 0 0].toArray 30)
  have hg0 : (w.alloc (.cells [Value.int .i64 0, .slice none 0 0].toArray 30)).heap[w.heap.size]? = some (.cells [Value.int .i64 0, .slice none 0 0].toArray 30 (0, 0)) := Array.getElem?_push_size
  generalize w.alloc (.cells [Value.int .i64 0, .slice none 0 0].toArray 30) = W at *
  have hrun := store_row (P := Tryd.prog) (w := W) (o := 0) sz_spd (x := spdV x (.slice none 0 0)) rfl rfl (spd_one x none 0 0) hg0 (by simp)
  have e1 : ([Value.int .i64 0, .slice none 0 0].toArray.toList.take 0 ++ spdC x (.slice none 0 0) ++ [Value.int .i64 0, .slice none 0 0].toArray.toList.drop (0 + (spdC x (.slice none 0 0)).length)).toArray = #[.int .i64 x.dare, .slice none 0 0] := by simp
  rw [e1] at hrun
  have hh := setRow_heap W w.heap.size _ #[Value.int .i64 x.dare, .slice none 0 0] 30 (0, 0) hg0
  rw [oM_store, hrun]
  have hb2 : Below w.heap.size w (W.setRow w.heap.size #[Value.int .i64 x.dare, .slice none 0 0]) := hb.grown (grown_setRow _ _ _) hb.size (fun k hk => by cases hk; exact Nat.le_refl _)
  exact k _ _ (hk.next hb2) hb2 (Nat.le_refl _) hh
theorem store_second {K : Value → World → Prop} {T' : TypeId} {g : Nat} {ad : Option Addr} {m c : Nat} {a b : Value} (hg : w.heap[g]? = some (.cells #[a, b] 30 (0, 0)))
    (k : ∀ W, w.grownBy W (some g) → W.heap[g]? = some (.cells #[a, .slice ad m c] 30 (0, 0)) → K undef W) : oM Tryd.prog (.store 24 (.tmp 0) (.tmp 1)) T' [.pointer (some ⟨g, 1, none⟩), .slice ad m c] K w := by
  have hrun := store_row (P := Tryd.prog) (o := 1) sz_ints (x := .slice ad m c) rfl rfl (xs := [Value.slice ad m c]) (by intro u hu; simp at hu; subst hu; rfl) hg (by simp)
  have hh := setRow_heap w g _ #[a, .slice ad m c] 30 (0, 0) hg
  have e1 : (#[a, b].toList.take 1 ++ [Value.slice ad m c] ++ #[a, b].toList.drop (1 + [Value.slice ad m c].length)).toArray = #[a, .slice ad m c] := by simp
  rw [e1] at hrun
  rw [oM_store, hrun]
  exact k _ (grown_setRow _ _ _) hh
abbrev FrG (g : Nat) (w w' : World) : Prop := Fr (fun i => i = g) w w'
theorem FrG.next {g : Nat} {w' : World} (h : FrG g w w1) (hb : Below w1.heap.size w1 w') : FrG g w w' :=
  h.trans (S' := fun _ => False) ⟨hb.os, hb.tape, hb.output, hb.size, fun i hi _ => hb.block i hi⟩ (fun _ h => h.elim)
theorem FrG.below {g : Nat} {w' : World} (h0 : Below w.heap.size w w1) (h : FrG g w1 w') (hg : w.heap.size ≤ g) : Below w.heap.size w w' :=
  ⟨h.os.trans h0.os, h.tape.trans h0.tape, h.output.trans h0.output, Nat.le_trans h0.size h.size, fun i hi => (h.block i (Nat.lt_of_lt_of_le hi h0.size) (fun e => by omega)).trans (h0.block i hi)⟩
theorem cellsAre_fr {g : Nat} {w' : World} (hL : cellsAre w L) (h : FrG g w w') (hn : ∀ p ∈ L, p.1.block ≠ g) : cellsAre w' L :=
  cellsAre_keepBut hL hn fun a ha hna => World.cell?_of_block (w := w) (h.block _ ha hna)
theorem _root_.Go.Sh.KnM.fr {g n g' : Nat} {w' : World} (hk : KnM w0 L g n w) (h : FrG g' w w') (hoff : ∀ p ∈ L, p.1.block ≠ g') (hne : g ≠ g') (hb : w0.heap.size ≤ g') : KnM w0 L g n w' := by
  obtain ⟨cur, T, h1, h2⟩ := hk.mine
  exact ⟨⟨FrG.below hk.below h hb, cellsAre_fr hk.cells h hoff⟩, ⟨cur, T, by rw [h.block g (mine_lt hk.mine) hne]; exact h1, h2⟩, hk.base, hk.off⟩
theorem Ints.fr {g : Nat} {w' : World} {v : Value} {l : List Int} (hi : Ints w v l) (h : FrG g w w') (hne : ∀ i, Value.inBlock v = some i → i ≠ g) : Ints w' v l :=
  ⟨hi.row.keep h.size (fun i e hlt => h.block i hlt (hne i e)), hi.rng, hi.len⟩
def UsC (St : World → Prop) (j : Nat) (w' : World) : Prop := j ≤ 4 → St w'
theorem usGet {St : World → Prop} {n : Nat} {w' : World} (h : upto (UsC St) n w') (hn : n ≤ 4) : St w' := by
  obtain ⟨s, hs, hc⟩ := h
  exact hc (Nat.le_trans hs hn)
end
end Go.Proofs
namespace Go.Proofs
open Go Go.Sh Go.RowKit FdSpec TkSpec
set_option linter.unusedSimpArgs false
set_option linter.unusedVariables false
set_option maxRecDepth 10000
section
variable {K : Value → World → Prop} {w w0 w1 : World} {L : List (Addr × Value)}
def ansL (s : Stp) (l : List Int) (b : Bld) (dare : Int) : List Int := ((expsM l).zip b.ys).map fun p => plusQ s p.2 (mulQ s dare [b.s, p.1])
theorem useM_no {s : Stp} {l : List Int} {b : Bld} {dare : Int} (h : (usableM s l).2 = false ∨ blindsM s b = false ∨ numsM s 1 [dare] = false) : useM s l b dare = (⟨0, []⟩, false) := by
  unfold useM
  rw [if_neg]
  rcases h with h | h | h <;> simp [h]
theorem useM_yes {s : Stp} {l : List Int} {b : Bld} {dare : Int} (h1 : (usableM s l).2 = true) (h2 : blindsM s b = true) (h3 : numsM s 1 [dare] = true) : useM s l b dare = (⟨dare, ansL s l b dare⟩, true) := by
  unfold useM
  rw [if_pos (by rw [h1, h2, h3]; rfl)]
  rfl
theorem usable_len {s : Stp} {l : List Int} (h : (usableM s l).2 = true) : l.length + 1 = s.bases.length ∧ validS s = true := by
  unfold usableM at h
  simp only [Bool.and_eq_true] at h
  have h := h.1
  unfold markM at h
  split at h
  · rename_i hc
    simp only [Bool.and_eq_true, decide_eq_true_eq] at hc
    exact ⟨hc.1.1.2, hc.1.1.1⟩
  · cases h
theorem blinds_len {s : Stp} {b : Bld} (h : blindsM s b = true) : b.ys.length = s.bases.length := by
  unfold blindsM at h
  simp only [Bool.and_eq_true, decide_eq_true_eq] at h
  exact h.1.2
def UsJ (al : List Int) (dare : Int) (g13 : Nat) (Wl : World) (vs : List Value) (w' : World) : Prop := FrG g13 Wl w' ∧ ∃ (v u ov : Value) (i : Nat), vs = [v, u, .int .i64 (i : Int)] ∧ i ≤ al.length ∧ OwnI w' Wl.heap.size ov (al.take i) ∧ w'.heap[g13]? = some (.cells #[.int .i64 dare, ov] 30 (0, 0))
theorem Use_ok (s : Stp) (b : Bld) (dare : Int) {v bv lv : Value} {l : List Int} (hd : I64 dare) (hs : SetR w s v) (hl : Ints w lv l) (hb : BldR w b bv)
    (k : ∀ w' ov, Below w.heap.size w w' → Ints w' ov (useM s l b dare).1.answers → K (.tuple #[spdV (useM s l b dare).1 ov, .bool (useM s l b dare).2]) w') : callM Tryd.prog 22 #[stpV s v, lv, bldV b bv, .int .i64 dare] K w := by
  apply sh_22_ok
  unfold sh_22
  obtain ⟨ad, c, rfl⟩ := hs.ints.isSlice
  have hys := hb.ys
  have hb0 := hb
  obtain ⟨yad, yc, rfl⟩ := hb.ys.isSlice
  have k2 : ∀ w' ov r, useM s l b dare = r → Below w.heap.size w w' → Ints w' ov r.1.answers → K (.tuple #[spdV r.1 ov, .bool r.2]) w' := fun w' ov r e hb hi => by
    rw [← e] at hi ⊢
    exact k w' ov hb hi
  clear k
  refine box_kn (cs := stpC s (.slice ad s.bases.length c)) rfl (.start w) fun b1 W hk hb1 hbb => ?_
  refine box_kn (cs := bldC b (.slice yad b.ys.length yc)) rfl hk fun b2 W2 hk hb2 hbb => ?_
  refine alloc_mine (n := 2) al_spd rfl hk fun g W2 hk hb2 hg => ?_
  clear hb1 hb2
  repeat (any_goals ((with_reducible refine idO ?_); (with_reducible refine oM_gen fun Kv hK=>?_); simp [go_sem, hk.cells]; refine hK _ _ ?_; clear hK; clear Kv))
  refine usable_ok s (hs.next hk.below) (hl.next hk.below) (fun w2 h2 => ?_)
  have hk := hk.next h2
  clear h2
  have hno := useM_no (s := s) (l := l) (b := b) (dare := dare)
  cases hu : (usableM s l).2 with
  | false =>
    repeat (any_goals (first
    | ((with_reducible refine local_desk s ad s.bases.length c hk ?_); intro b7 W7 hk hb7 hg7)
    | (with_reducible first|((refine idGd ?_); refine zD ?_)|((refine idPick ?_); refine yB ?_)|((refine idCond ?_); refine yL ?_))
    | ((with_reducible refine idO ?_); (with_reducible refine oM_gen fun Kv hK=>?_); simp [go_sem, hk.cells]; refine hK _ _ ?_; clear hK; clear Kv)))
    exact store_spd ⟨0, []⟩ none 0 0 hk (fun W3 hk hc _ => ⟨_, by simp [go_sem, hc], k2 _ _ _ (hno (.inl hu)) hk.below (Ints.nil _)⟩)
  | true =>
    obtain ⟨hll, hv⟩ := usable_len hu
    have hv7 := validS_len hv
    repeat (any_goals (first
    | ((with_reducible refine local_desk s ad s.bases.length c hk ?_); intro b7 W7 hk hb7 hg7)
    | (with_reducible ((refine idGd ?_); refine zC ?_))
    | ((with_reducible refine idO ?_); (with_reducible refine oM_gen fun Kv hK=>?_); simp [go_sem, hk.cells]; refine hK _ _ ?_; clear hK; clear Kv)))
    refine blinds_ok s b (hs.next hk.below) (hb0.next hk.below) (fun w3 h3 => ?_)
    have hk := hk.next h3
    cases hbl : blindsM s b with
    | false =>
      repeat (any_goals (first
      | (with_reducible first|((refine idGd ?_); first|refine zC ?_|refine zD ?_)|((refine idPick ?_); first|refine yB ?_|refine yC ?_)|((refine idCond ?_); refine yL ?_))
      | ((with_reducible refine idO ?_); (with_reducible refine oM_gen fun Kv hK=>?_); simp [go_sem, hk.cells]; refine hK _ _ ?_; clear hK; clear Kv)))
      exact store_spd ⟨0, []⟩ none 0 0 hk (fun W3 hk hc _ => ⟨_, by simp [go_sem, hc], k2 _ _ _ (hno (.inr (.inl hbl))) hk.below (Ints.nil _)⟩)
    | true =>
      have hyl := blinds_len hbl
      repeat (any_goals (first
      | ((with_reducible refine mk1 dare hd ?_); intro v8 W8 hb8 hi)
      | (with_reducible first|refine pureM_in ?_|((refine idGd ?_); refine zC ?_)|((refine idPick ?_); refine yC ?_))
      | ((with_reducible refine idO ?_); (with_reducible refine oM_gen fun Kv hK=>?_); simp [go_sem, hk.cells]; refine hK _ _ ?_; clear hK; clear Kv)))
      have hk := hk.next hb8
      refine nums_ok s 1 (hs.next hk.below) hi (fun w4 h4 => ?_)
      have hk := hk.next h4
      cases hn : numsM s 1 [dare] with
      | false =>
        repeat (any_goals (first
        | (with_reducible first|((refine idGd ?_); refine zC ?_)|((refine idPick ?_); refine yC ?_)|((refine idCond ?_); refine yL ?_))
        | ((with_reducible refine idO ?_); (with_reducible refine oM_gen fun Kv hK=>?_); simp [go_sem, hk.cells]; refine hK _ _ ?_; clear hK; clear Kv)))
        exact store_spd ⟨0, []⟩ none 0 0 hk (fun W3 hk hc _ => ⟨_, by simp [go_sem, hc], k2 _ _ _ (hno (.inr (.inr hn))) hk.below (Ints.nil _)⟩)
      | true =>
        have ey := useM_yes hu hbl hn
        have hgW : g < w4.heap.size := mine_lt hk.mine
        have hoffL := cells_lt hk.cells
        repeat (any_goals (first
        | ((with_reducible refine local_spd ⟨dare, []⟩ hk ?_); intro g13 W9 hk hb9 hg13 hh13)
        | (with_reducible first|((refine idGd ?_); refine zC ?_)|((refine idPick ?_); refine yC ?_)|((refine idCond ?_); refine yM ?_))
        | ((with_reducible refine idO ?_); (with_reducible refine oM_gen fun Kv hK=>?_); simp [go_sem, hk.cells]; refine hK _ _ ?_; clear hK; clear Kv)))
        refine exps_ok (hl.next hk.below) (by omega) (by omega) (fun ev w5 he h5 hff => ?_)
        have hg13W := (Array.getElem?_eq_some_iff.1 hh13).1
        have hh13 : w5.heap[g13]? = some (.cells #[.int .i64 dare, .slice none 0 0] 30 (0, 0)) := by rw [h5.block g13 hg13W]; exact hh13
        have hk := hk.next h5
        have hel : (expsM l).length = l.length + 1 := rfl
        have hal : (ansL s l b dare).length = l.length + 1 := by simp [ansL, hel]; omega
        have hat : ∀ (i : Nat) (h1 : i < (expsM l).length) (h2 : i < b.ys.length), (ansL s l b dare)[i]? = some (plusQ s b.ys[i] (mulQ s dare [b.s, (expsM l)[i]])) := fun i h1 h2 => by
          simp [ansL, h1, h2, List.getElem?_zip_eq_some]
          exact ⟨_, _, ⟨rfl, rfl⟩, rfl⟩
        have hrng : ∀ n ∈ ansL s l b dare, I64 n := by
          intro n hn
          obtain ⟨m, _, rfl⟩ := List.mem_map.1 hn
          exact addM_I64 _ _ _
        generalize ansL s l b dare = al at *
        obtain ⟨ead, ec, rfl⟩ := he.isSlice
        have hs5 := h5.size
        have hs9 := hb9.size
        have hing : ∀ i, Value.inBlock (.slice ead (expsM l).length ec) = some i → i ≠ g13 := fun i hi => by
          have := hff i hi
          omega
        repeat (any_goals ((with_reducible refine idO ?_); (with_reducible refine oM_gen fun Kv hK=>?_); simp [go_sem]; refine hK _ _ ?_; clear hK; clear Kv))
        refine ⟨UsJ al dare g13 w5, vsMu (expsM l).length, ⟨Fr.refl _ _, _, _, .slice none 0 0, 0, rfl, by omega, World.ownsRow_nil _ _ _ _, hh13⟩, ?_⟩
        have hk0 := hk
        have hgne : g ≠ g13 := by omega
        have hoff13 : ∀ p ∈ cellsOf (cellsOf (cellsOf [] b1 0 (stpC s (.slice ad s.bases.length c))) b2 0 (bldC b (.slice yad b.ys.length yc))) b7 0 (stpC s (.slice ad s.bases.length c)), p.1.block ≠ g13 := fun p hp => by have := hoffL p hp; omega
        have hw13 : w.heap.size ≤ g13 := Nat.le_trans hk0.base (by omega)
        rintro _ _ w6 ⟨h6, u1, u2, ov, i, rfl, hi, ho, hh⟩
        have hk := hk0.fr h6 hoff13 hgne hw13
        by_cases hin : i = (expsM l).length
        · rw [List.take_of_length_le (by omega)] at ho
          have hints := ho.ints hrng (by omega)
          obtain ⟨g', cap, cur, rfl, hlt, hB, _, _, _, hcell⟩ := owns_cells ho (by omega)
          have c0 : w6.cell? ⟨g13, 0, none⟩ = some (.int .i64 dare) := by rw [cell_of_block hh]; rfl
          have c1 : w6.cell? ⟨g13, 1, none⟩ = some (.slice (some ⟨g', 0, none⟩) al.length cap) := by rw [cell_of_block hh]; rfl
          repeat (any_goals (first
          | (with_reducible ((refine idCond ?_); refine yO ?_))
          | ((with_reducible refine idO ?_); (with_reducible refine oM_gen fun Kv hK=>?_); simp [go_sem, c0, c1]; refine hK _ _ ?_; clear hK; clear Kv)))
          refine store_spd ⟨dare, al⟩ _ _ _ hk (fun W3 hk hc hgr => ⟨_, by simp [go_sem, hc], k2 _ _ _ ey hk.below ⟨hints.row.keep hgr.size (fun i hi hlt => hgr.block i hlt ?_), hrng, by show al.length ≤ _; omega⟩⟩)
          cases hi
          intro e
          have e2 : g' = g := Option.some.inj e
          omega
        · have hev := Ints.fr he h6 hing
          have hed := FrG.below hk0.below h6 hw13
          obtain ⟨b8, o8, rfl, hb8', ca, ra, _⟩ := hev.at (i := i) (by omega)
          obtain ⟨b9, o9, rfl, hb9', cb, rb, _⟩ := hys.at (i := i) (by omega)
          have c1 : ∀ w', Below w6.heap.size w6 w' → w'.heap[g13]? = some (.cells #[.int .i64 dare, ov] 30 (0, 0)) := fun w' hw => by rw [hw.block g13 (Array.getElem?_eq_some_iff.1 hh).1]; exact hh
          repeat (any_goals (first
          | (with_reducible ((refine idCond ?_); refine yN ?_))
          | ((with_reducible refine idO ?_); (with_reducible refine oM_gen fun Kv hK=>?_); simp [go_sem, ca _ (Below.refl _ _)]; (first|refine hK _ _ ?_|refine And.intro (by omega) (hK _ _ ?_)); clear hK; clear Kv)))
          refine ⟨UsC (fun w' => KnM w _ g 2 w' ∧ Below w.heap.size w w' ∧ w'.cell? ⟨g13, 1, none⟩ = some ov), fun _ => ⟨hk.drew, hk.drew.below, by rw [cell_of_block (c1 _ .drawn)]; rfl⟩, ?_⟩
          have hk := hk.drew
          have ho := ho.keep (Below.drawn (w := w6))
          have h7 : Below w6.heap.size w6 { w6 with drawn := w6.drawn + 1 } := .drawn
          have hfr := FrG.next h6 h7
          have hh1 := c1 _ h7
          repeat (any_goals (first
          | ((with_reducible refine mk2 b.s _ hb.s ra ?_); intro v10 w10 h10 hi10)
          | (with_reducible refine pureH_in ?_)
          | ((with_reducible refine idOH ?_); (with_reducible refine oH_of ⟨_, rfl⟩ (fun W0 hW0 => by (refine oM_gen (fun Kv hK => ?_)); simp [go_sem, (usGet hW0 (by omega)).1.cells, (usGet hW0 (by omega)).2.2, cb _ (usGet hW0 (by omega)).2.1]; (first | exact hK _ _ ⟨rfl, rfl⟩ | exact ⟨by omega, hK _ _ ⟨rfl, rfl⟩⟩)) ?_))))
          have hk := hk.next h10
          have hh1 : w10.heap[g13]? = _ := (h10.block g13 (Array.getElem?_eq_some_iff.1 hh1).1).trans hh1
          have ho := ho.keep h10
          have hfr := hfr.next h10
          refine ⟨fun _ => ⟨hk, hk.below, by rw [cell_of_block hh1]; rfl⟩, mul_ok s _ (hs.next hk.below) hi10 (fun w11 h11 => ?_)⟩
          have hk := hk.next h11
          have hh1 : w11.heap[g13]? = _ := (h11.block g13 (Array.getElem?_eq_some_iff.1 hh1).1).trans hh1
          have ho := ho.keep h11
          have hfr := hfr.next h11
          refine ⟨fun _ => ⟨hk, hk.below, by rw [cell_of_block hh1]; rfl⟩, plus_ok s _ _ (hs.next hk.below) (fun w12 h12 => ?_)⟩
          have hk := hk.next h12
          have hh1 : w12.heap[g13]? = _ := (h12.block g13 (Array.getElem?_eq_some_iff.1 hh1).1).trans hh1
          have ho := ho.keep h12
          have hfr := hfr.next h12
          refine ⟨fun _ => ⟨hk, hk.below, by rw [cell_of_block hh1]; rfl⟩, mk1 _ (addM_I64 _ _ _) (fun v13 w13 h13 hi13 => ?_)⟩
          have hk := hk.next h13
          have hh1 : w13.heap[g13]? = _ := (h13.block g13 (Array.getElem?_eq_some_iff.1 hh1).1).trans hh1
          have ho := ho.keep h13
          have hfr := hfr.next h13
          refine ⟨fun _ => ⟨hk, hk.below, by rw [cell_of_block hh1]; rfl⟩, append1 ho hfr.size hi13 (by simp; omega) (fun v14 w14 ho h14 => ?_)⟩
          have hg5 : g13 < w5.heap.size := by omega
          have hh1 : w14.heap[g13]? = _ := (h14.block g13 hg5).trans hh1
          have hfr : FrG g13 w5 w14 := hfr.trans (S' := fun i => w5.heap.size ≤ i) ⟨h14.os, h14.tape, h14.output, h14.size, fun i hi hn => h14.block i (by omega)⟩ (fun i h => .inr h)
          refine ⟨fun h => absurd h (by omega), ?_⟩
          have hli : ((al.take i) ++ [plusQ s b.ys[i] (mulQ s dare [b.s, (expsM l)[i]])]) = al.take (i + 1) := by
            rw [List.take_add_one, hat i (by omega) (by omega)]
            rfl
          rw [hli] at ho
          obtain ⟨oad, oc, hov⟩ := owns_len ho
          subst hov
          repeat (any_goals ((with_reducible refine idO ?_); (with_reducible refine oM_gen fun Kv hK=>?_); simp [go_sem]; refine hK _ _ ?_; clear hK; clear Kv))
          refine ⟨fun h => absurd h (by omega), store_second hh1 (fun w15 hgr hh2 => ⟨fun h => absurd h (by omega), ?_⟩)⟩
          have hfr : FrG g13 w5 w15 := hfr.by hgr (fun i e => .inl (Option.some.inj e).symm)
          have ho : OwnI w15 w5.heap.size _ _ := owns_keep ho (fun j hj => hgr.block j (owns_own ho hj).1 (fun e => by have := (owns_own ho hj).2.1; have := Option.some.inj e; omega))
          repeat (any_goals ((with_reducible refine idO ?_); (with_reducible refine oM_gen fun Kv hK=>?_); simp [go_sem]; (try simp (disch := omega) only [wrapI64, wrapU8, wrapU32, wrapU64]); refine hK _ _ ?_; clear hK; clear Kv))
          refine ⟨⟨hfr, _, _, _, i + 1, rfl, by omega, ho, hh2⟩, ?_⟩
          simp only [vsMu_eq]; omega
end
end Go.Proofs
set_option linter.unusedVariables false
set_option maxRecDepth 100000
namespace Go.Proofs
open Go.Sh
def sh_26 (a0 : Value) (K : Value → World → Prop) (w : World) : Prop :=
 oM Tryd.prog (.box 28 (.tmp 0)) 0 [a0] (fun v1_1 w =>
 oM Tryd.prog (.fieldAddr 28 (.tmp 0) 0) 0 [v1_1] (fun v3_2 w =>
 oM Tryd.prog (.load 3 (.tmp 0)) 3 [v3_2] (fun v4_3 w =>
 oM Tryd.prog (.fieldAddr 28 (.tmp 0) 1) 0 [v1_1] (fun v5_4 w =>
 oM Tryd.prog (.load 3 (.tmp 0)) 3 [v5_4] (fun v6_5 w =>
 oM Tryd.prog (.fieldAddr 28 (.tmp 0) 2) 0 [v1_1] (fun v7_6 w =>
 oM Tryd.prog (.load 3 (.tmp 0)) 3 [v7_6] (fun v8_7 w =>
 oM Tryd.prog (.fieldAddr 28 (.tmp 0) 3) 0 [v1_1] (fun v9_8 w =>
 oM Tryd.prog (.load 3 (.tmp 0)) 3 [v9_8] (fun v10_9 w =>
 oM Tryd.prog (.fieldAddr 28 (.tmp 0) 4) 0 [v1_1] (fun v11_10 w =>
 oM Tryd.prog (.load 3 (.tmp 0)) 3 [v11_10] (fun v12_11 w =>
 oM Tryd.prog (.fieldAddr 28 (.tmp 0) 5) 0 [v1_1] (fun v13_12 w =>
 oM Tryd.prog (.load 3 (.tmp 0)) 3 [v13_12] (fun v14_13 w =>
 oM Tryd.prog (.buildSlice 24 6 #[(0, (.tmp 0)), (1, (.tmp 1)), (2, (.tmp 2)), (3, (.tmp 3)), (4, (.tmp 4)), (5, (.tmp 5))]) 24 [v4_3, v6_5, v8_7, v10_9, v12_11, v14_13] (fun v15_14 w =>
 callM Tryd.prog 49 #[v15_14] (fun v16_15 w =>
 K v16_15 w) w) w) w) w) w) w) w) w) w) w) w) w) w) w) w
theorem sh_26_eq (a0 : Value) (K : Value → World → Prop) (w : World) : sh_26 a0 K w = code Tryd.prog (fun _ => 2) 17 (Tryd.f26.body.getD .skip) (slotsAt [a0]) (retK Tryd.prog [.tmp 2] K) w := by kernel_rfl
theorem sh_26_ok {a0 : Value} {K : Value → World → Prop} {w : World} (h : sh_26 a0 K w) : callM Tryd.prog 26 #[a0] K w :=
  calls_of_code (fun _ => 2) (fn := Tryd.f26) (rs := [.tmp 2]) Tryd.func26 rfl rfl (by kernel_rfl) (Nat.le_of_ble_eq_true rfl) ((sh_26_eq a0 K w).mp h)
def sh_5 (K : Value → World → Prop) (w : World) : Prop :=
 oM Tryd.prog (.build 23 #[(0, (.tmp 0)), (1, (.tmp 1)), (2, (.tmp 2))]) 23 [(.int .i64 23), (.int .i64 11), (.int .i64 4)] (fun v18_1 w =>
 oM Tryd.prog (.buildSlice 24 3 #[(0, (.tmp 0)), (1, (.tmp 1)), (2, (.tmp 2))]) 24 [(.int .i64 4), (.int .i64 16), (.int .i64 18)] (fun v19_2 w =>
 oM Tryd.prog (.build 26 #[(0, (.tmp 0)), (1, (.tmp 1)), (2, (.tmp 2))]) 26 [v18_1, v19_2, (.int .i64 3)] (fun v20_3 w =>
 oM Tryd.prog (.alloc 26) 0 [] (fun v1_4 w =>
 oM Tryd.prog (.store 26 (.tmp 0) (.tmp 1)) 0 [v1_4, v20_3] (fun _ w =>
 oM Tryd.prog (.buildSlice 24 2 #[(0, (.tmp 0)), (1, (.tmp 1))]) 24 [(.int .i64 5), (.int .i64 7)] (fun v21_5 w =>
 oM Tryd.prog (.buildSlice 24 3 #[(0, (.tmp 0)), (1, (.tmp 1)), (2, (.tmp 2))]) 24 [(.int .i64 1), (.int .i64 2), (.int .i64 3)] (fun v22_6 w =>
 oM Tryd.prog (.build 47 #[(0, (.tmp 0)), (1, (.tmp 1)), (3, (.tmp 2))]) 47 [(.int .i64 4), (.int .i64 1), v22_6] (fun v23_7 w =>
 oM Tryd.prog (.alloc 47) 0 [] (fun v3_8 w =>
 oM Tryd.prog (.store 47 (.tmp 0) (.tmp 1)) 0 [v3_8, v23_7] (fun _ w =>
 oM Tryd.prog (.load 26 (.tmp 0)) 26 [v1_4] (fun v25_9 w =>
 callM Tryd.prog 21 #[v25_9, (.int .i64 3), v21_5, (.int .i64 2)] (fun v27_10 w =>
 oM Tryd.prog (.extract (.tmp 0) 0) 56 [v27_10] (fun v28_11 w =>
 oM Tryd.prog (.extract (.tmp 0) 1) 57 [v27_10] (fun v29_12 w =>
 oM Tryd.prog (.alloc 56) 0 [] (fun v4_13 w =>
 oM Tryd.prog (.store 56 (.tmp 0) (.tmp 1)) 0 [v4_13, v28_11] (fun _ w =>
 oM Tryd.prog (.load 26 (.tmp 0)) 26 [v1_4] (fun v31_14 w =>
 oM Tryd.prog (.load 47 (.tmp 0)) 47 [v3_8] (fun v33_15 w =>
 callM Tryd.prog 22 #[v31_14, v21_5, v33_15, (.int .i64 2)] (fun v34_16 w =>
 oM Tryd.prog (.extract (.tmp 0) 0) 30 [v34_16] (fun v35_17 w =>
 oM Tryd.prog (.extract (.tmp 0) 1) 4 [v34_16] (fun v36_18 w =>
 oM Tryd.prog (.alloc 30) 0 [] (fun v6_19 w =>
 oM Tryd.prog (.store 30 (.tmp 0) (.tmp 1)) 0 [v6_19, v35_17] (fun _ w =>
 oM Tryd.prog (.load 26 (.tmp 0)) 26 [v1_4] (fun v38_20 w =>
 oM Tryd.prog (.load 47 (.tmp 0)) 47 [v3_8] (fun v40_21 w =>
 callM Tryd.prog 22 #[v38_20, v21_5, v40_21, (.int .i64 5)] (fun v41_22 w =>
 oM Tryd.prog (.extract (.tmp 0) 0) 30 [v41_22] (fun v42_23 w =>
 oM Tryd.prog (.extract (.tmp 0) 1) 4 [v41_22] (fun v43_24 w =>
 oM Tryd.prog (.alloc 30) 0 [] (fun v8_25 w =>
 oM Tryd.prog (.store 30 (.tmp 0) (.tmp 1)) 0 [v8_25, v42_23] (fun _ w =>
 oM Tryd.prog (.build 28 #[(0, (.tmp 0)), (1, (.tmp 1)), (2, (.tmp 2)), (3, (.tmp 3)), (4, (.tmp 4))]) 28 [(.int .i64 8), (.int .i64 18), (.int .i64 9), (.int .i64 16), (.int .i64 13)] (fun v44_26 w =>
 oM Tryd.prog (.alloc 28) 0 [] (fun v10_27 w =>
 oM Tryd.prog (.store 28 (.tmp 0) (.tmp 1)) 0 [v10_27, v44_26] (fun _ w =>
 oM Tryd.prog (.load 26 (.tmp 0)) 26 [v1_4] (fun v46_28 w =>
 oM Tryd.prog (.load 28 (.tmp 0)) 28 [v10_27] (fun v47_29 w =>
 oM Tryd.prog (.load 30 (.tmp 0)) 30 [v6_19] (fun v48_30 w =>
 oM Tryd.prog (.load 30 (.tmp 0)) 30 [v8_25] (fun v49_31 w =>
 callM Tryd.prog 7 #[v46_28, v47_29, v48_30, v49_31] (fun v50_32 w =>
 oM Tryd.prog (.extract (.tmp 0) 0) 24 [v50_32] (fun v51_33 w =>
 oM Tryd.prog (.extract (.tmp 0) 1) 4 [v50_32] (fun v52_34 w =>
 oM Tryd.prog (.load 26 (.tmp 0)) 26 [v1_4] (fun v54_35 w =>
 oM Tryd.prog (.load 28 (.tmp 0)) 28 [v10_27] (fun v55_36 w =>
 oM Tryd.prog (.load 30 (.tmp 0)) 30 [v6_19] (fun v56_37 w =>
 oM Tryd.prog (.load 30 (.tmp 0)) 30 [v6_19] (fun v57_38 w =>
 callM Tryd.prog 7 #[v54_35, v55_36, v56_37, v57_38] (fun v58_39 w =>
 oM Tryd.prog (.extract (.tmp 0) 0) 24 [v58_39] (fun v59_40 w =>
 oM Tryd.prog (.extract (.tmp 0) 1) 4 [v58_39] (fun v60_41 w =>
 oM Tryd.prog (.fieldAddr 30 (.tmp 0) 1) 0 [v6_19] (fun v61_42 w =>
 oM Tryd.prog (.load 24 (.tmp 0)) 24 [v61_42] (fun v62_43 w =>
 oM Tryd.prog (.buildSlice 24 3 #[(0, (.tmp 0)), (1, (.tmp 1)), (2, (.tmp 2))]) 24 [(.int .i64 9), (.int .i64 9), (.int .i64 4)] (fun v63_44 w =>
 callM Tryd.prog 23 #[v62_43, v63_44] (fun v64_45 w =>
 oM Tryd.prog (.unOp .not 4 (.tmp 0)) 4 [v64_45] (fun v65_46 w =>
 gdM (gd v65_46 false) (oM Tryd.prog (.fieldAddr 30 (.tmp 0) 1) 0 [v8_25]) (fun v67_47 w =>
 gdM (gd v65_46 false) (oM Tryd.prog (.load 24 (.tmp 0)) 24 [v67_47]) (fun v68_48 w =>
 gdM (gd v65_46 false) (oM Tryd.prog (.buildSlice 24 3 #[(0, (.tmp 0)), (1, (.tmp 1)), (2, (.tmp 2))]) 24 [(.int .i64 10), (.int .i64 3), (.int .i64 0)]) (fun v69_49 w =>
 gdM (gd v65_46 false) (callM Tryd.prog 23 #[v68_48, v69_49]) (fun v70_50 w =>
 gdM (gd v65_46 false) (oM Tryd.prog (.unOp .not 4 (.tmp 0)) 4 [v70_50]) (fun v71_51 w =>
 oM Tryd.prog (.pick (.tmp 0) (.tmp 1) (.tmp 2)) 4 [v65_46, (.bool true), v71_51] (fun v72_52 w =>
 gdM (gd v72_52 false) (pureM v36_18) (fun v74_53 w =>
 gdM (gd v72_52 false) (oM Tryd.prog (.unOp .not 4 (.tmp 0)) 4 [v74_53]) (fun v75_54 w =>
 oM Tryd.prog (.pick (.tmp 0) (.tmp 1) (.tmp 2)) 4 [v72_52, (.bool true), v75_54] (fun v76_55 w =>
 gdM (gd v76_55 false) (pureM v43_24) (fun v78_56 w =>
 gdM (gd v76_55 false) (oM Tryd.prog (.unOp .not 4 (.tmp 0)) 4 [v78_56]) (fun v79_57 w =>
 oM Tryd.prog (.pick (.tmp 0) (.tmp 1) (.tmp 2)) 4 [v76_55, (.bool true), v79_57] (fun v80_58 w =>
 gdM (gd v80_58 false) (pureM v51_33) (fun v82_59 w =>
 gdM (gd v80_58 false) (pureM v21_5) (fun v83_60 w =>
 gdM (gd v80_58 false) (callM Tryd.prog 23 #[v82_59, v83_60]) (fun v84_61 w =>
 gdM (gd v80_58 false) (oM Tryd.prog (.unOp .not 4 (.tmp 0)) 4 [v84_61]) (fun v85_62 w =>
 oM Tryd.prog (.pick (.tmp 0) (.tmp 1) (.tmp 2)) 4 [v80_58, (.bool true), v85_62] (fun v86_63 w =>
 gdM (gd v86_63 false) (pureM v52_34) (fun v88_64 w =>
 gdM (gd v86_63 false) (oM Tryd.prog (.unOp .not 4 (.tmp 0)) 4 [v88_64]) (fun v89_65 w =>
 oM Tryd.prog (.pick (.tmp 0) (.tmp 1) (.tmp 2)) 4 [v86_63, (.bool true), v89_65] (fun v90_66 w =>
 gdM (gd v90_66 false) (pureM v60_41) (fun v92_67 w =>
 oM Tryd.prog (.pick (.tmp 0) (.tmp 1) (.tmp 2)) 4 [v90_66, (.bool true), v92_67] (fun v93_68 w =>
 condM v93_68
 (K (.bool false) w)
 (oM Tryd.prog (.fieldAddr 30 (.tmp 0) 1) 0 [v6_19] (fun v94_69 w =>
 oM Tryd.prog (.load 24 (.tmp 0)) 24 [v94_69] (fun v95_70 w =>
 oM Tryd.prog (.build 30 #[(0, (.tmp 0)), (1, (.tmp 1))]) 30 [(.int .i64 3), v95_70] (fun v96_71 w =>
 oM Tryd.prog (.alloc 30) 0 [] (fun v15_72 w =>
 oM Tryd.prog (.store 30 (.tmp 0) (.tmp 1)) 0 [v15_72, v96_71] (fun _ w =>
 oM Tryd.prog (.load 26 (.tmp 0)) 26 [v1_4] (fun v97_73 w =>
 callM Tryd.prog 18 #[v97_73, v21_5] (fun v99_74 w =>
 oM Tryd.prog (.binOp .eql 3 (.tmp 0) (.const (.int .i64 6)) 3) 4 [v99_74] (fun v100_75 w =>
 gdM (gd v100_75 true) (oM Tryd.prog (.load 26 (.tmp 0)) 26 [v1_4]) (fun v102_76 w =>
 gdM (gd v100_75 true) (pureM v21_5) (fun v103_77 w =>
 gdM (gd v100_75 true) (callM Tryd.prog 19 #[v102_76, v103_77]) (fun v104_78 w =>
 oM Tryd.prog (.pick (.tmp 0) (.tmp 1) (.tmp 2)) 4 [v100_75, v104_78, (.bool false)] (fun v105_79 w =>
 gdM (gd v105_79 true) (oM Tryd.prog (.load 26 (.tmp 0)) 26 [v1_4]) (fun v107_80 w =>
 gdM (gd v105_79 true) (oM Tryd.prog (.buildSlice 24 2 #[(0, (.tmp 0)), (1, (.tmp 1))]) 24 [(.int .i64 5), (.int .i64 0)]) (fun v108_81 w =>
 gdM (gd v105_79 true) (callM Tryd.prog 19 #[v107_80, v108_81]) (fun v109_82 w =>
 gdM (gd v105_79 true) (oM Tryd.prog (.unOp .not 4 (.tmp 0)) 4 [v109_82]) (fun v110_83 w =>
 oM Tryd.prog (.pick (.tmp 0) (.tmp 1) (.tmp 2)) 4 [v105_79, v110_83, (.bool false)] (fun v111_84 w =>
 gdM (gd v111_84 true) (oM Tryd.prog (.load 26 (.tmp 0)) 26 [v1_4]) (fun v113_85 w =>
 gdM (gd v111_84 true) (callM Tryd.prog 24 #[v113_85, (.int .i64 3)]) (fun v114_86 w =>
 gdM (gd v111_84 true) (oM Tryd.prog (.binOp .eql 3 (.tmp 0) (.const (.int .i64 18)) 3) 4 [v114_86]) (fun v115_87 w =>
 oM Tryd.prog (.pick (.tmp 0) (.tmp 1) (.tmp 2)) 4 [v111_84, v115_87, (.bool false)] (fun v116_88 w =>
 gdM (gd v116_88 true) (oM Tryd.prog (.load 26 (.tmp 0)) 26 [v1_4]) (fun v118_89 w =>
 gdM (gd v116_88 true) (callM Tryd.prog 24 #[v118_89, (.int .i64 0)]) (fun v119_90 w =>
 gdM (gd v116_88 true) (oM Tryd.prog (.binOp .eql 3 (.tmp 0) (.const (.int .i64 0)) 3) 4 [v119_90]) (fun v120_91 w =>
 oM Tryd.prog (.pick (.tmp 0) (.tmp 1) (.tmp 2)) 4 [v116_88, v120_91, (.bool false)] (fun v121_92 w =>
 oM Tryd.prog (.binOp .eql 57 (.tmp 0) (.const (.int .i64 0)) 57) 4 [v29_12] (fun v123_93 w =>
 gdM (gd v123_93 true) (oM Tryd.prog (.load 56 (.tmp 0)) 56 [v4_13]) (fun v125_94 w =>
 gdM (gd v123_93 true) (oM Tryd.prog (.build 56 #[(0, (.tmp 0)), (1, (.tmp 1)), (2, (.tmp 2))]) 56 [(.int .i64 9), (.int .i64 16), (.int .i64 13)]) (fun v126_95 w =>
 gdM (gd v123_93 true) (oM Tryd.prog (.binOp .eql 56 (.tmp 0) (.tmp 1) 56) 4 [v125_94, v126_95]) (fun v127_96 w =>
 oM Tryd.prog (.pick (.tmp 0) (.tmp 1) (.tmp 2)) 4 [v123_93, v127_96, (.bool false)] (fun v128_97 w =>
 gdM (gd v128_97 true) (oM Tryd.prog (.load 26 (.tmp 0)) 26 [v1_4]) (fun v130_98 w =>
 gdM (gd v128_97 true) (callM Tryd.prog 25 #[v130_98, (.int .i64 3), (.int .i64 2), (.int .i64 6)]) (fun v131_99 w =>
 gdM (gd v128_97 true) (oM Tryd.prog (.binOp .eql 3 (.tmp 0) (.const (.int .i64 9)) 3) 4 [v131_99]) (fun v132_100 w =>
 oM Tryd.prog (.pick (.tmp 0) (.tmp 1) (.tmp 2)) 4 [v128_97, v132_100, (.bool false)] (fun v133_101 w =>
 gdM (gd v133_101 true) (oM Tryd.prog (.load 26 (.tmp 0)) 26 [v1_4]) (fun v135_102 w =>
 gdM (gd v133_101 true) (oM Tryd.prog (.load 28 (.tmp 0)) 28 [v10_27]) (fun v136_103 w =>
 gdM (gd v133_101 true) (oM Tryd.prog (.load 30 (.tmp 0)) 30 [v6_19]) (fun v137_104 w =>
 gdM (gd v133_101 true) (callM Tryd.prog 8 #[v135_102, v136_103, v137_104]) (fun v138_105 w =>
 oM Tryd.prog (.pick (.tmp 0) (.tmp 1) (.tmp 2)) 4 [v133_101, v138_105, (.bool false)] (fun v139_106 w =>
 gdM (gd v139_106 true) (oM Tryd.prog (.load 26 (.tmp 0)) 26 [v1_4]) (fun v141_107 w =>
 gdM (gd v139_106 true) (oM Tryd.prog (.load 28 (.tmp 0)) 28 [v10_27]) (fun v142_108 w =>
 gdM (gd v139_106 true) (oM Tryd.prog (.load 30 (.tmp 0)) 30 [v8_25]) (fun v143_109 w =>
 gdM (gd v139_106 true) (callM Tryd.prog 8 #[v141_107, v142_108, v143_109]) (fun v144_110 w =>
 oM Tryd.prog (.pick (.tmp 0) (.tmp 1) (.tmp 2)) 4 [v139_106, v144_110, (.bool false)] (fun v145_111 w =>
 gdM (gd v145_111 true) (oM Tryd.prog (.load 26 (.tmp 0)) 26 [v1_4]) (fun v147_112 w =>
 gdM (gd v145_111 true) (oM Tryd.prog (.load 28 (.tmp 0)) 28 [v10_27]) (fun v148_113 w =>
 gdM (gd v145_111 true) (oM Tryd.prog (.load 30 (.tmp 0)) 30 [v15_72]) (fun v149_114 w =>
 gdM (gd v145_111 true) (callM Tryd.prog 8 #[v147_112, v148_113, v149_114]) (fun v150_115 w =>
 gdM (gd v145_111 true) (oM Tryd.prog (.unOp .not 4 (.tmp 0)) 4 [v150_115]) (fun v151_116 w =>
 oM Tryd.prog (.pick (.tmp 0) (.tmp 1) (.tmp 2)) 4 [v145_111, v151_116, (.bool false)] (fun v152_117 w =>
 gdM (gd v121_92 true) (pureM v152_117) (fun v155_118 w =>
 oM Tryd.prog (.pick (.tmp 0) (.tmp 1) (.tmp 2)) 4 [v121_92, v155_118, (.bool false)] (fun v156_119 w =>
 gdM (gd v156_119 true) (oM Tryd.prog (.load 26 (.tmp 0)) 26 [v1_4]) (fun v158_120 w =>
 gdM (gd v156_119 true) (oM Tryd.prog (.load 28 (.tmp 0)) 28 [v10_27]) (fun v159_121 w =>
 gdM (gd v156_119 true) (oM Tryd.prog (.load 30 (.tmp 0)) 30 [v6_19]) (fun v160_122 w =>
 gdM (gd v156_119 true) (oM Tryd.prog (.load 30 (.tmp 0)) 30 [v8_25]) (fun v161_123 w =>
 gdM (gd v156_119 true) (pureM v21_5) (fun v162_124 w =>
 gdM (gd v156_119 true) (callM Tryd.prog 15 #[v158_120, v159_121, v160_122, v161_123, v162_124]) (fun v163_125 w =>
 oM Tryd.prog (.pick (.tmp 0) (.tmp 1) (.tmp 2)) 4 [v156_119, v163_125, (.bool false)] (fun v164_126 w =>
 gdM (gd v164_126 true) (oM Tryd.prog (.load 28 (.tmp 0)) 28 [v10_27]) (fun v166_127 w =>
 gdM (gd v164_126 true) (callM Tryd.prog 26 #[v166_127]) (fun v167_128 w =>
 gdM (gd v164_126 true) (oM Tryd.prog (.binOp .eql 9 (.tmp 0) (.const (.string ⟨#[54, 91, 56, 59, 49, 56, 59, 57, 59, 49, 54, 59, 49, 51, 59, 48, 59, 93]⟩)) 9) 4 [v167_128]) (fun v168_129 w =>
 oM Tryd.prog (.pick (.tmp 0) (.tmp 1) (.tmp 2)) 4 [v164_126, v168_129, (.bool false)] (fun v169_130 w =>
 K v169_130 w) w) w) w) w) w) w) w) w) w) w) w) w) w) w) w) w) w) w) w) w) w) w) w) w) w) w) w) w) w) w) w) w) w) w) w) w) w) w) w) w) w) w) w) w) w) w) w) w) w) w) w) w) w) w) w) w) w) w) w) w) w) w) w)) w) w) w) w) w) w) w) w) w) w) w) w) w) w) w) w) w) w) w) w) w) w) w) w) w) w) w) w) w) w) w) w) w) w) w) w) w) w) w) w) w) w) w) w) w) w) w) w) w) w) w) w) w) w) w) w) w) w) w) w) w) w) w) w) w) w) w) w) w) w) w) w) w) w
theorem sh_5_eq (K : Value → World → Prop) (w : World) : sh_5 K w = code Tryd.prog (fun _ => 2) 170 (Tryd.f5.body.getD .skip) (slotsAt []) (retK Tryd.prog [.tmp 0] K) w := by kernel_rfl
theorem sh_5_ok {K : Value → World → Prop} {w : World} (h : sh_5 K w) : callM Tryd.prog 5 #[] K w :=
  calls_of_code (fun _ => 2) (fn := Tryd.f5) (rs := [.tmp 0]) Tryd.func5 rfl rfl (by kernel_rfl) (Nat.le_of_ble_eq_true rfl) ((sh_5_eq K w).mp h)
end Go.Proofs
set_option linter.unusedVariables false
set_option maxRecDepth 100000
namespace Go.Proofs
open Go.Sh
def sh_49 (a0 : Value) (K : Value → World → Prop) (w : World) : Prop :=
 callM Tryd.prog 62 #[a0, (.func (.func 63) #[] #[])] (fun v4_1 w =>
 K v4_1 w) w
theorem sh_49_eq (a0 : Value) (K : Value → World → Prop) (w : World) : sh_49 a0 K w = code Tryd.prog (fun _ => 0) 5 (Tryd.f49.body.getD .skip) (slotsAt [a0]) (retK Tryd.prog [.tmp 2] K) w := by kernel_rfl
theorem sh_49_ok {a0 : Value} {K : Value → World → Prop} {w : World} (h : sh_49 a0 K w) : callM Tryd.prog 49 #[a0] K w :=
  calls_of_code (fun _ => 0) (fn := Tryd.f49) (rs := [.tmp 2]) Tryd.func49 rfl rfl (by kernel_rfl) (Nat.le_of_ble_eq_true rfl) ((sh_49_eq a0 K w).mp h)
def sh_62 (a0 : Value) (a1 : Value) (K : Value → World → Prop) (w : World) : Prop :=
 oM Tryd.prog (.alloc 108) 0 [] (fun v5_1 w =>
 oM Tryd.prog (.call (Go.Call.mk (.builtin .len) #[(.tmp 0)] #[24])) 3 [a0] (fun v9_2 w =>
 callM Tryd.prog 73 #[v9_2] (fun v10_3 w =>
 oM Tryd.prog (.binOp .add 9 (.tmp 0) (.tmp 1) 9) 9 [v10_3, (.string ⟨#[91]⟩)] (fun v11_4 w =>
 callM Tryd.prog 72 #[v5_1, v11_4] (fun v12_5 w =>
 oM Tryd.prog (.call (Go.Call.mk (.builtin .len) #[(.tmp 0)] #[24])) 3 [a0] (fun v14_6 w =>
 loopM [undef, (.int .i64 0)] w (fun J_7 m_8 l_9 u_l_9 w0_l_9 => (fun w => (
 oM Tryd.prog (.binOp .lss 3 (.tmp 0) (.tmp 1) 3) 0 [(l_9.getD 1 undef), v14_6] (fun v16_10 w =>
 condM v16_10
 (oM Tryd.prog (.indexAddr 24 (.tmp 0) (.tmp 1)) 0 [a0, (l_9.getD 1 undef)] (fun v17_11 w =>
 oM Tryd.prog (.load 3 (.tmp 0)) 3 [v17_11] (fun v18_12 w =>
 oM Tryd.prog (.call (Go.Call.mk (.value (.tmp 0)) #[(.tmp 1)] #[3])) 9 [a1, v18_12] (fun v21_13 w =>
 callM Tryd.prog 72 #[v5_1, v21_13] (fun v22_14 w =>
 oM Tryd.prog (.binOp .add 3 (.tmp 0) (.tmp 1) 3) 3 [(l_9.getD 1 undef), (.int .i64 1)] (fun v23_15 w =>
 J_7 [v18_12, v23_15] w ∧ m_8 [v18_12, v23_15] w < m_8 l_9 w0_l_9) w) w) w) w) w)
 (callM Tryd.prog 74 #[v5_1] (fun v24_16 w =>
 oM Tryd.prog (.binOp .add 9 (.tmp 0) (.tmp 1) 9) 9 [v24_16, (.string ⟨#[93]⟩)] (fun v25_17 w =>
 K v25_17 w) w) w)) w)) w0_l_9)) w) w) w) w) w) w
theorem sh_62_eq (a0 : Value) (a1 : Value) (K : Value → World → Prop) (w : World) : sh_62 a0 a1 K w = code Tryd.prog (fun _ => 0) 26 (Tryd.f62.body.getD .skip) (slotsAt [a0, a1]) (retK Tryd.prog [.tmp 4] K) w := by kernel_rfl
theorem sh_62_ok {a0 a1 : Value} {K : Value → World → Prop} {w : World} (h : sh_62 a0 a1 K w) : callM Tryd.prog 62 #[a0, a1] K w :=
  calls_of_code (fun _ => 0) (fn := Tryd.f62) (rs := [.tmp 4]) Tryd.func62 rfl rfl (by kernel_rfl) (Nat.le_of_ble_eq_true rfl) ((sh_62_eq a0 a1 K w).mp h)
def sh_63 (a0 : Value) (K : Value → World → Prop) (w : World) : Prop :=
 callM Tryd.prog 73 #[a0] (fun v4_1 w =>
 oM Tryd.prog (.binOp .add 9 (.tmp 0) (.tmp 1) 9) 9 [v4_1, (.string ⟨#[59]⟩)] (fun v5_2 w =>
 K v5_2 w) w) w
theorem sh_63_eq (a0 : Value) (K : Value → World → Prop) (w : World) : sh_63 a0 K w = code Tryd.prog (fun _ => 0) 6 (Tryd.f63.body.getD .skip) (slotsAt [a0]) (retK Tryd.prog [.tmp 2] K) w := by kernel_rfl
theorem sh_63_ok {a0 : Value} {K : Value → World → Prop} {w : World} (h : sh_63 a0 K w) : callM Tryd.prog 63 #[a0] K w :=
  calls_of_code (fun _ => 0) (fn := Tryd.f63) (rs := [.tmp 2]) Tryd.func63 rfl rfl (by kernel_rfl) (Nat.le_of_ble_eq_true rfl) ((sh_63_eq a0 K w).mp h)
def sh_72 (a0 : Value) (a1 : Value) (K : Value → World → Prop) (w : World) : Prop :=
 callM Tryd.prog 78 #[a0] (fun v7_1 w =>
 oM Tryd.prog (.nilCheck (.tmp 0)) 0 [a0] (fun v10_2 w =>
 oM Tryd.prog (.fieldAddr 108 (.tmp 0) 1) 0 [v10_2] (fun v11_3 w =>
 oM Tryd.prog (.load 106 (.tmp 0)) 106 [v11_3] (fun v12_4 w =>
 oM Tryd.prog (.call (Go.Call.mk (.builtin .append) #[(.tmp 0), (.tmp 1)] #[106, 9])) 106 [v12_4, a1] (fun v14_5 w =>
 oM Tryd.prog (.nilCheck (.tmp 0)) 0 [a0] (fun v15_6 w =>
 oM Tryd.prog (.fieldAddr 108 (.tmp 0) 1) 0 [v15_6] (fun v16_7 w =>
 oM Tryd.prog (.store 106 (.tmp 0) (.tmp 1)) 0 [v16_7, v14_5] (fun _ w =>
 oM Tryd.prog (.call (Go.Call.mk (.builtin .len) #[(.tmp 0)] #[9])) 3 [a1] (fun v18_8 w =>
 K (.tuple #[v18_8, .nilIface]) w) w) w) w) w) w) w) w) w) w
theorem sh_72_eq (a0 : Value) (a1 : Value) (K : Value → World → Prop) (w : World) : sh_72 a0 a1 K w = code Tryd.prog (fun _ => 0) 19 (Tryd.f72.body.getD .skip) (slotsAt [a0, a1]) (retK Tryd.prog [.tmp 4, .tmp 5] K) w := by kernel_rfl
theorem sh_72_ok {a0 a1 : Value} {K : Value → World → Prop} {w : World} (h : sh_72 a0 a1 K w) : callM Tryd.prog 72 #[a0, a1] K w :=
  calls_of_code (fun _ => 0) (fn := Tryd.f72) (rs := [.tmp 4, .tmp 5]) Tryd.func72 rfl rfl (by kernel_rfl) (Nat.le_of_ble_eq_true rfl) ((sh_72_eq a0 a1 K w).mp h)
def sh_78 (a0 : Value) (K : Value → World → Prop) (w : World) : Prop :=
 oM Tryd.prog (.nilCheck (.tmp 0)) 0 [a0] (fun v3_1 w =>
 oM Tryd.prog (.fieldAddr 108 (.tmp 0) 0) 0 [v3_1] (fun v4_2 w =>
 oM Tryd.prog (.load 105 (.tmp 0)) 105 [v4_2] (fun v5_3 w =>
 oM Tryd.prog (.binOp .eql 105 (.tmp 0) (.const (.pointer none)) 105) 4 [v5_3] (fun v6_4 w =>
 condM v6_4
 (oM Tryd.prog (.convert 105 119 (.tmp 0)) 119 [a0] (fun v9_5 w =>
 extM Tryd.prog 83 #[v9_5] (fun v10_6 w =>
 oM Tryd.prog (.convert 119 105 (.tmp 0)) 105 [v10_6] (fun v11_7 w =>
 oM Tryd.prog (.nilCheck (.tmp 0)) 0 [a0] (fun v12_8 w =>
 oM Tryd.prog (.fieldAddr 108 (.tmp 0) 0) 0 [v12_8] (fun v13_9 w =>
 oM Tryd.prog (.store 105 (.tmp 0) (.tmp 1)) 0 [v13_9, v11_7] (fun _ w =>
 K (.tuple #[]) w) w) w) w) w) w) w)
 (oM Tryd.prog (.nilCheck (.tmp 0)) 0 [a0] (fun v15_10 w =>
 oM Tryd.prog (.fieldAddr 108 (.tmp 0) 0) 0 [v15_10] (fun v16_11 w =>
 oM Tryd.prog (.load 105 (.tmp 0)) 105 [v16_11] (fun v17_12 w =>
 oM Tryd.prog (.binOp .neq 105 (.tmp 0) (.tmp 1) 105) 4 [v17_12, a0] (fun v19_13 w =>
 condM v19_13
 (False)
 (K (.tuple #[]) w)) w) w) w) w)) w) w) w) w
theorem sh_78_eq (a0 : Value) (K : Value → World → Prop) (w : World) : sh_78 a0 K w = code Tryd.prog (fun _ => 0) 20 (Tryd.f78.body.getD .skip) (slotsAt [a0]) (retK Tryd.prog [] K) w := by kernel_rfl
theorem sh_78_ok {a0 : Value} {K : Value → World → Prop} {w : World} (h : sh_78 a0 K w) : callM Tryd.prog 78 #[a0] K w :=
  calls_of_code (fun _ => 0) (fn := Tryd.f78) (rs := []) Tryd.func78 rfl rfl (by kernel_rfl) (Nat.le_of_ble_eq_true rfl) ((sh_78_eq a0 K w).mp h)
end Go.Proofs
namespace Go.Proofs
abbrev tabName : String := (YtpfjmfgnlpnflaaDoor.Rows.ticketRevealsRow.laid.map (fun x => x.1)).getD 2 default
open Go.Shelf
def Tryd.lays169_ren : Go.Shelf.Ren := ⟨fun | 169 => 74 | n => n, fun | 70 => 105 | 9 => 9 | 0 => 0 | 72 => 108 | 37 => 106 | 127 => 117 | 3 => 3 | 5 => 5 | n => n, fun | n => n⟩
theorem Tryd.lays169 : Go.Proofs.Lays.n169 Tryd.prog Tryd.lays169_ren := {
  mixed := by kernel_rfl
  f169 := Tryd.func74.trans (congrArg some (by kernel_rfl))
  t0 := Tryd.underlying0
  a0 := Tryd.isAgg0
  z0 := Tryd.sizeOf0
  v0 := Tryd.zeroValue0
  t3 := Tryd.underlying3
  a3 := Tryd.isAgg3
  z3 := Tryd.sizeOf3
  v3 := Tryd.zeroValue3
  t9 := Tryd.underlying9
  a9 := Tryd.isAgg9
  z9 := Tryd.sizeOf9
  v9 := Tryd.zeroValue9
  t37 := Tryd.underlying106
  a37 := Tryd.isAgg106
  z37 := Tryd.sizeOf106
  v37 := Tryd.zeroValue106
  t70 := Tryd.underlying105
  a70 := Tryd.isAgg105
  z70 := Tryd.sizeOf105
  v70 := Tryd.zeroValue105
  t72 := Tryd.underlying108
  a72 := Tryd.isAgg108
  z72 := Tryd.sizeOf108
  v72 := Tryd.zeroValue108
  t127 := Tryd.underlying117
  a127 := Tryd.isAgg117
  z127 := Tryd.sizeOf117
  v127 := Tryd.zeroValue117 }
theorem Tryd.Builder_Extra_169 : Builder.Extra Tryd.prog Tryd.lays169_ren := {
  sizeBuilder := by kernel_rfl
  liesBuilder := by kernel_rfl
  t5 := Tryd.underlying5
  a5 := Tryd.isAgg5
  z5 := Tryd.sizeOf5
  v5 := Tryd.zeroValue5
  infoByte := by kernel_rfl
  cellsByte := by kernel_rfl
  sizeByte := by kernel_rfl
  neB5 := by decide }
open Go.RowKit in
theorem Tryd.Builder_String_any (B b : Nat) (l : List UInt8) (w : World) (h : Lib.IsBuilder 108 5 B b (Lib.byteCells l) w) (hBw : B ≤ w.heap.size) :
    Calls Tryd.prog 74 #[.pointer (some ⟨b, 0, none⟩)] w fun e w' => e = .returned (.string ⟨l.toArray⟩) ∧ Below B w w' := Any.Builder_String_any Tryd.lays169 Tryd.Builder_Extra_169 B b l w h hBw
def Tryd.laysM171_ren : Go.Shelf.Ren := ⟨fun | 171 => 73 | 243 => 79 | 246 => 84 | 283 => 85 | 284 => 86 | 285 => 87 | 286 => 88 | 129 => 80 | 317 => 89 | 318 => 90 | 319 => 91 | 320 => 92 | 337 => 93 | 338 => 81 | n => n, fun | 3 => 3 | 9 => 9 | 2 => 2 | 4 => 4 | 171 => 123 | 0 => 0 | 53 => 77 | 37 => 106 | 5 => 5 | 173 => 125 | 212 => 128 | 51 => 129 | 20 => 20 | 213 => 130 | 46 => 92 | 232 => 133 | 233 => 122 | n => n, fun | 17 => 3 | 18 => 4 | 19 => 2 | n => n⟩
theorem Tryd.laysM171 : Go.Proofs.LaysM.n171 Tryd.prog Tryd.laysM171_ren := {
  mixed := by kernel_rfl
  f129 := Tryd.func80.trans (congrArg some (by kernel_rfl))
  f171 := Tryd.func73.trans (congrArg some (by kernel_rfl))
  f243 := Tryd.func79.trans (congrArg some (by kernel_rfl))
  f246 := Tryd.func84.trans (congrArg some (by kernel_rfl))
  f283 := Tryd.func85.trans (congrArg some (by kernel_rfl))
  f284 := Tryd.func86.trans (congrArg some (by kernel_rfl))
  f285 := Tryd.func87.trans (congrArg some (by kernel_rfl))
  f286 := Tryd.func88.trans (congrArg some (by kernel_rfl))
  f317 := Tryd.func89.trans (congrArg some (by kernel_rfl))
  f318 := Tryd.func90.trans (congrArg some (by kernel_rfl))
  f319 := Tryd.func91.trans (congrArg some (by kernel_rfl))
  f320 := Tryd.func92.trans (congrArg some (by kernel_rfl))
  f337 := Tryd.func93.trans (congrArg some (by kernel_rfl))
  f338 := Tryd.func81.trans (congrArg some (by kernel_rfl))
  t0 := Tryd.underlying0
  a0 := Tryd.isAgg0
  z0 := Tryd.sizeOf0
  v0 := Tryd.zeroValue0
  t2 := Tryd.underlying2
  a2 := Tryd.isAgg2
  z2 := Tryd.sizeOf2
  v2 := Tryd.zeroValue2
  t3 := Tryd.underlying3
  a3 := Tryd.isAgg3
  z3 := Tryd.sizeOf3
  v3 := Tryd.zeroValue3
  t4 := Tryd.underlying4
  a4 := Tryd.isAgg4
  z4 := Tryd.sizeOf4
  v4 := Tryd.zeroValue4
  t5 := Tryd.underlying5
  a5 := Tryd.isAgg5
  z5 := Tryd.sizeOf5
  v5 := Tryd.zeroValue5
  t9 := Tryd.underlying9
  a9 := Tryd.isAgg9
  z9 := Tryd.sizeOf9
  v9 := Tryd.zeroValue9
  t20 := Tryd.underlying20
  a20 := Tryd.isAgg20
  z20 := Tryd.sizeOf20
  v20 := Tryd.zeroValue20
  t37 := Tryd.underlying106
  a37 := Tryd.isAgg106
  z37 := Tryd.sizeOf106
  v37 := Tryd.zeroValue106
  t46 := Tryd.underlying92
  a46 := Tryd.isAgg92
  z46 := Tryd.sizeOf92
  v46 := Tryd.zeroValue92
  t51 := Tryd.underlying129
  a51 := Tryd.isAgg129
  z51 := Tryd.sizeOf129
  v51 := Tryd.zeroValue129
  t53 := Tryd.underlying77
  a53 := Tryd.isAgg77
  z53 := Tryd.sizeOf77
  v53 := Tryd.zeroValue77
  t171 := Tryd.underlying123
  a171 := Tryd.isAgg123
  z171 := Tryd.sizeOf123
  v171 := Tryd.zeroValue123
  t173 := Tryd.underlying125
  a173 := Tryd.isAgg125
  z173 := Tryd.sizeOf125
  v173 := Tryd.zeroValue125
  t212 := Tryd.underlying128
  a212 := Tryd.isAgg128
  z212 := Tryd.sizeOf128
  v212 := Tryd.zeroValue128
  t213 := Tryd.underlying130
  a213 := Tryd.isAgg130
  z213 := Tryd.sizeOf130
  t232 := Tryd.underlying133
  a232 := Tryd.isAgg133
  z232 := Tryd.sizeOf133
  v232 := Tryd.zeroValue133
  t233 := Tryd.underlying122
  a233 := Tryd.isAgg122
  z233 := Tryd.sizeOf122
  v233 := Tryd.zeroValue122
  g17 := by kernel_rfl
  g18 := by kernel_rfl
  g19 := by kernel_rfl
  i0 := by kernel_rfl
  i2 := by kernel_rfl
  i3 := by kernel_rfl
  i4 := by kernel_rfl
  i5 := by kernel_rfl
  i9 := by kernel_rfl
  i20 := by kernel_rfl
  i37 := by kernel_rfl
  i46 := by kernel_rfl
  i51 := by kernel_rfl
  i53 := by kernel_rfl
  i171 := by kernel_rfl
  i173 := by kernel_rfl
  i212 := by kernel_rfl
  i232 := by kernel_rfl
  i233 := by kernel_rfl
  m17 := by kernel_rfl
  m18 := by kernel_rfl
  m19 := by kernel_rfl }
open Go.RowKit Go.Sort Go.Lib in
theorem Tryd.strconv_Itoa (n : Int) (h0 : -9223372036854775808 ≤ n) (h1 : n ≤ 9223372036854775807) (w : World) (htab : Lib.TabIs Tryd.prog w tabName .u64 Lib.pow10Tab) :
    Calls Tryd.prog 73 #[.int .i64 n] w fun e w' => e = .returned (.string ⟨(Lib.itoa n).toArray⟩) ∧ ∃ k os, w' = grow (w.drewN k) os := Any.strconv_Itoa Tryd.laysM171 n h0 h1 w htab
end Go.Proofs
namespace CodeSpec
open Go.Lib
abbrev Bytes := List UInt8
def InR (n : Int) : Prop := -9223372036854775808 ≤ n ∧ n ≤ 9223372036854775807
def encInt (n : Int) : Bytes := itoa n ++ [59]
def encList (l : List Bytes) : Bytes := itoa l.length ++ 91 :: (l.flatten ++ [93])
def encNums (l : List Int) : Bytes := encList (l.map encInt)
structure Rd where
  rest : Bytes
  bad : Bool
theorem decDigits_len (u : Nat) (k : Nat) (hk : 1 ≤ k) (h : u < 10 ^ k) : (decDigits u).length ≤ k := by
  induction k generalizing u with
  | zero => omega
  | succ k ih =>
    rw [decDigits]
    split
    · simp
    · rename_i h10
      have hk1 : 1 ≤ k := by
        rcases Nat.eq_zero_or_pos k with rfl | h0
        · simp at h; omega
        · exact h0
      have := ih (u / 10) hk1 (by rw [Nat.pow_succ] at h; omega)
      simp only [List.length_append, List.length_singleton]
      omega
theorem itoa_len (n : Int) (h : InR n) : (itoa n).length ≤ 20 := by
  obtain ⟨h1, h2⟩ := h
  unfold itoa
  split
  · have := decDigits_len n.natAbs 19 (by omega) (by omega)
    simp; omega
  · have := decDigits_len n.toNat 19 (by omega) (by omega)
    omega
def Rd.ok (r : Rd) : Prop := r.bad = true → r.rest = []
end CodeSpec
namespace Go.Proofs.Cd
open Go Go.Sh Go.RowKit Go.Lib CodeSpec
set_option linter.unusedSimpArgs false
set_option maxRecDepth 10000
theorem ba_extract (l : List UInt8) (i j : Nat) : (⟨l.toArray⟩ : ByteArray).extract i j = ⟨((l.take j).drop i).toArray⟩ := by
  apply ByteArray.ext
  rw [← Array.toList_inj, ByteArray.data_extract, Array.toList_extract, List.extract_eq_take_drop]
  simp [List.drop_take]
theorem ba_inj (a b : List UInt8) : ((⟨a.toArray⟩ : ByteArray) = ⟨b.toArray⟩) = (a = b) := by
  simp
theorem ba_byteAt (l : List UInt8) (k : Nat) : byteAt ⟨l.toArray⟩ k = l.getD k 0 := by
  simp [byteAt]
attribute [go_sem] ba_size ba_append ba_extract ba_byteAt ba_inj
theorem K_eq {K : Value → World → Prop} {w : World} {a b : Value} (h : K a w) (e : b = a) : K b w := by rw [e]; exact h
theorem call_of_calls {f : FuncId} {args : Array Value} {w : World} {v : Value} {Q : World → Prop} {K : Value → World → Prop} (h : Calls Tryd.prog f args w fun e w' => e = .returned v ∧ Q w') (k : ∀ w', Q w' → K v w') : callM Tryd.prog f args K w :=
  Calls.mono h (fun _ w' ⟨he, hq⟩ => ⟨v, he, k w' hq⟩)
structure Laid (w : World) : Prop where
  tab : TabIs Tryd.prog w tabName .u64 pow10Tab
  size : 5 ≤ w.heap.size
theorem gTab : Tryd.prog.globalNamed tabName = some 3 := by kernel_rfl
theorem Laid.keep {w w' : World} (h : Laid w) (hb : ∀ k, k < 5 → w'.heap[k]? = w.heap[k]?) (hs : w.heap.size ≤ w'.heap.size) : Laid w' := by
  refine ⟨?_, Nat.le_trans h.size hs⟩
  have h1 := h.tab
  unfold TabIs World.var? at h1 ⊢
  rw [gTab] at h1 ⊢
  simp only [Option.bind_some] at h1 ⊢
  rw [hb _ (by omega)]
  exact h1
theorem Laid.below {w w' : World} (h : Laid w) {B : Nat} (hb : Below B w w') (hB : 5 ≤ B) : Laid w' := h.keep (fun k hk => hb.block k (by omega)) hb.size
theorem Laid.grown {w w' : World} (h : Laid w) {b : Nat} (hg : w.grownBy w' (some b)) (hb : 5 ≤ b) : Laid w' := h.keep (fun k hk => hg.block k (by have := h.size; omega) (by simp; omega)) hg.size
theorem grown_of_below {w w' : World} (h : Below w.heap.size w w') (b : Option Nat) : w.grownBy w' b := ⟨h.os, h.tape, h.output, h.size, fun k hk _ => h.block k hk⟩
theorem below_of_grown {B : Nat} {w w' : World} {row : Option Nat} (h : w.grownBy w' row) (hB : B ≤ w.heap.size) (hr : ∀ k, row = some k → B ≤ k) : Below B w w' :=
  (Below.refl B w).grown h hB hr
theorem itoa_ok (n : Int) (hn : InR n) {K : Value → World → Prop} {w : World} (hl : Laid w) (k : ∀ w', Below w.heap.size w w' → K (.string ⟨(itoa n).toArray⟩) w') : callM Tryd.prog 73 #[.int .i64 n] K w := by
  refine call_of_calls (Tryd.strconv_Itoa n hn.1 hn.2 w hl.tab) ?_
  rintro w' ⟨d, os, rfl⟩
  exact k _ (below_grow _ _ (Nat.le_refl _) _ _)
theorem infoB : Tryd.prog.info? 108 = some Tryd.t108 := by kernel_rfl
theorem sizeB : Tryd.t108.size = 2 := by kernel_rfl
theorem liesB (b : Nat) : liesAt Tryd.prog Tryd.prog.depth 108 (2 / Tryd.prog.cellsOf 108) (⟨b, 0, none⟩ : Addr).off 108 1 = true := by kernel_rfl
theorem runNE (x : Value) (w : World) : (callFunc 83 #[x]).run Tryd.prog w = .ok (.value x) w := by kernel_rfl
theorem extNE {x : Value} {K : Value → World → Prop} {w : World} (k : K x w) : extM Tryd.prog 83 #[x] K w := by
  unfold extM opM
  rw [runNE]
  exact k
theorem copyCheck_nil (B b : Nat) (bs : List Value) (w : World) (h : BuilderAt 108 5 B b (.pointer none) bs w) {K : Value → World → Prop}
    (k : K (.tuple #[]) (w.setCell ⟨b, 0, none⟩ (.pointer (some ⟨b, 0, none⟩)))) : callM Tryd.prog 78 #[.pointer (some ⟨b, 0, none⟩)] K w := by
  apply sh_78_ok
  unfold sh_78
  have hc := h.cell0
  have hf := h.frozen0
  have hv1 : (convert 105 119 (.pointer (some ⟨b, 0, none⟩))).run Tryd.prog w = .ok (.pointer (some ⟨b, 0, none⟩)) w :=
    run_to_unsafe (P := Tryd.prog) (w := w) (a := ⟨b, 0, none⟩) Tryd.underlying105 Tryd.underlying119 (t := 108) (j := Tryd.t108) infoB (by rw [sizeB]; omega) h.shape (by show (0 : Nat) < 2; omega)
  have hv2 : (convert 119 105 (.pointer (some ⟨b, 0, none⟩))).run Tryd.prog w = .ok (.pointer (some ⟨b, 0, none⟩)) w :=
    run_from_unsafe (P := Tryd.prog) (w := w) (a := ⟨b, 0, none⟩) Tryd.underlying119 Tryd.underlying105 (u := 108) (j := Tryd.t108) infoB h.shape (liesB b)
  repeat (any_goals (first
  | (with_reducible refine extNE ?_)
  | (with_reducible ((refine idCond ?_); refine yL ?_))
  | ((with_reducible refine idO ?_); (with_reducible refine oM_gen fun Kv hK=>?_); simp [go_sem, oM_eqc, eqGuard, hc, hf, hv1, hv2]; refine hK _ _ ?_; clear hK; clear Kv)))
  exact k
theorem copyCheck_self (B b : Nat) (bs : List Value) (w : World) (h : BuilderAt 108 5 B b (.pointer (some ⟨b, 0, none⟩)) bs w) {K : Value → World → Prop}
    (k : K (.tuple #[]) w) : callM Tryd.prog 78 #[.pointer (some ⟨b, 0, none⟩)] K w := by
  apply sh_78_ok
  unfold sh_78
  have hc := h.cell0
  have hf := h.frozen0
  have hn := run_neq_ptr_same (P := Tryd.prog) (w := w) (tp := 105) (te := 108) (j := Tryd.t108) (a := ⟨b, 0, none⟩) Tryd.underlying105 infoB
  repeat (any_goals (first
  | (with_reducible ((refine idCond ?_); refine yM ?_))
  | ((with_reducible refine idO ?_); (with_reducible refine oM_gen fun Kv hK=>?_); simp [go_sem, oM_eqc, oM_net, eqGuard, hc, hf, hn]; refine hK _ _ ?_; clear hK; clear Kv)))
  exact k
theorem copyCheck_ok (B b : Nat) (bs : List Value) (w : World) (h : IsBuilder 108 5 B b bs w) {K : Value → World → Prop}
    (k : ∀ w', BuilderAt 108 5 B b (.pointer (some ⟨b, 0, none⟩)) bs w' → w.grownBy w' (some b) → w'.heap.size = w.heap.size → K (.tuple #[]) w') : callM Tryd.prog 78 #[.pointer (some ⟨b, 0, none⟩)] K w := by
  rcases h with h | h
  · refine copyCheck_nil B b bs w h (k _ (h.used _) ⟨rfl, rfl, rfl, by simp [World.setCell], fun i _ hi => Below.heap_setCell _ _ _ _ (fun e => hi (by simp [e]))⟩ (by simp [World.setCell]))
  · exact copyCheck_self B b bs w h (k _ h ⟨rfl, rfl, rfl, Nat.le_refl _, fun _ _ _ => rfl⟩ rfl)
theorem ownsRow_slice {w : World} {B : Nat} {e : TypeId} {sz : Nat} {v : Value} {n : Nat} {xs : List Value} (h : w.ownsRow B e sz v n xs) : ∃ a m c, v = .slice a m c := by
  rcases h.2 with ⟨h, _⟩ | ⟨g, cap, cur, h, _⟩
  · exact ⟨_, _, _, h⟩
  · exact ⟨_, _, _, h⟩
theorem builderString_ok (B b : Nat) (l : List UInt8) (w : World) (h : IsBuilder 108 5 B b (Lib.byteCells l) w) (hBw : B ≤ w.heap.size) {K : Value → World → Prop} (k : ∀ w', Below B w w' → K (.string ⟨l.toArray⟩) w') : callM Tryd.prog 74 #[.pointer (some ⟨b, 0, none⟩)] K w :=
  call_of_calls (Tryd.Builder_String_any B b l w h hBw) k
theorem writeString_ok (B b : Nat) (l s : List UInt8) (w : World) (h : IsBuilder 108 5 B b (Lib.byteCells l) w) (hlen : l.length + s.length ≤ 140737488355328) (hBw : B ≤ w.heap.size) {K : Value → World → Prop}
    (k : ∀ w', IsBuilder 108 5 B b (Lib.byteCells (l ++ s)) w' → Below B w w' → K (.tuple #[.int .i64 s.length, .nilIface]) w') : callM Tryd.prog 72 #[.pointer (some ⟨b, 0, none⟩), .string ⟨s.toArray⟩] K w := by
  apply sh_72_ok
  unfold sh_72
  refine copyCheck_ok B b _ w h ?_
  intro w1 h1 hg1 hs1
  obtain ⟨hB, v, hb, hown, hne⟩ := h1
  have hc1 : w1.cell? ⟨b, 1, none⟩ = some v := by simp [World.cell?, hb]
  have hbl : Below B w w1 := below_of_grown hg1 hBw (fun k hk => by cases hk; exact hB)
  have hbl5 : (Lib.byteCells l).length = l.length := by simp [Lib.byteCells]
  repeat (any_goals ((with_reducible refine idO ?_); (with_reducible refine oM_gen fun Kv hK=>?_); simp [go_sem, hc1]; refine hK _ _ ?_; clear hK; clear Kv))
  obtain ⟨v', w2, hrun, ho, hg, _⟩ := run_append_own_string (P := Tryd.prog) w1 B 106 9 106 5 Tryd.t5 Tryd.underlying106 Tryd.underlying9 (by kernel_rfl) (by kernel_rfl) (by kernel_rfl) (by kernel_rfl) v (Lib.byteCells l).length (Lib.byteCells l) hown ⟨s.toArray⟩ (by unfold maxLen; rw [ba_size]; omega) (by rw [ba_size]; omega) (by omega)
  rw [oM_value (S := Builtin.append_ #[106, 9] 106 #[v, .string ⟨s.toArray⟩]) (by simp [xop, execOp, evalL, evE, resolve, invoke, builtin]), hrun, ok_iff]
  have hb2 : w2.heap[b]? = some (.cells #[.pointer (some ⟨b, 0, none⟩), v] 108 (0, 0)) := by
    rw [hg.block b (by have := (Array.getElem?_eq_some_iff.1 hb).1; exact this) (fun e => hne e.symm)]
    exact hb
  have hc2 : w2.cell? ⟨b, 1, none⟩ = some v := by simp [World.cell?, hb2]
  have hf2 : w2.frozen? ⟨b, 1, none⟩ = false := by simp [World.frozen?, hb2]
  have ho' : w2.ownsRow B 5 1 v' (Lib.byteCells (l ++ s)).length (Lib.byteCells (l ++ s)) := by
    have e : Lib.byteCells l ++ strCells ⟨s.toArray⟩ = Lib.byteCells (l ++ s) := by simp [Lib.byteCells, strCells]
    have e2 : (Lib.byteCells l).length + (⟨s.toArray⟩ : ByteArray).size = (Lib.byteCells (l ++ s)).length := by rw [ba_size]; simp [Lib.byteCells]
    rw [e, e2] at ho
    exact ho
  have hput := BuilderAt.put (p := .pointer (some ⟨b, 0, none⟩)) hB hb2 ho' (by decide)
  have hbl2 : Below B w w2 := hbl.trans (below_of_grown hg (by omega) (fun k hk => (hown.lt k hk).1))
  obtain ⟨av, nv, cv, rfl⟩ := ownsRow_slice ho
  repeat (any_goals ((with_reducible refine idO ?_); (with_reducible refine oM_gen fun Kv hK=>?_); simp [go_sem, hc2, hf2]; refine hK _ _ ?_; clear hK; clear Kv))
  exact k _ (.inr hput) (hbl2.setCell hB _)
end Go.Proofs.Cd
namespace Go.Proofs.Cd
open Go Go.Sh Go.RowKit Go.Lib CodeSpec
set_option linter.unusedSimpArgs false
set_option maxRecDepth 10000
def intV (n : Int) : Value := .int .i64 n
def RowOf {α : Type} (mk : α → Value) (w : World) (v : Value) (l : List α) : Prop :=
  ∃ ad c, v = .slice ad l.length c ∧ (l = [] ∨ ∃ b o, ad = some ⟨b, o, none⟩ ∧ b < w.heap.size ∧ ∀ (i : Nat) (h : i < l.length), w.cell? ⟨b, o + i, none⟩ = some (mk l[i]))
theorem RowOf.below {α : Type} {mk : α → Value} {w w' : World} {v : Value} {l : List α} (h : RowOf mk w v l) (hb : Below w.heap.size w w') : RowOf mk w' v l := by
  obtain ⟨ad, c, rfl, h⟩ := h
  refine ⟨ad, c, rfl, h.imp id ?_⟩
  rintro ⟨b, o, rfl, hlt, hc⟩
  exact ⟨b, o, rfl, Nat.lt_of_lt_of_le hlt hb.size, fun i hi => by rw [hb.cell hlt]; exact hc i hi⟩
theorem RowOf.nil {α : Type} (mk : α → Value) (w : World) (ad : Option Addr) (c : Nat) : RowOf mk w (.slice ad 0 c) [] := ⟨ad, c, rfl, .inl rfl⟩
theorem addr_add (b o k : Nat) : (⟨b, o, none⟩ : Addr).add k = ⟨b, o + k, none⟩ := by
  unfold Addr.add
  split
  · rename_i h0; rw [h0]; simp
  · rfl
theorem RowOf.of_owns {α : Type} {mk : α → Value} {w : World} {B : Nat} {e : TypeId} {v : Value} {l : List α} (h : w.ownsRow B e 1 v l.length (l.map mk)) : RowOf mk w v l := by
  rcases h.2 with ⟨rfl, h0⟩ | ⟨g, cap, cur, rfl, hb, hg, hn, hm, hcs, ht⟩
  · obtain rfl : l = [] := List.eq_nil_of_length_eq_zero h0
    exact RowOf.nil _ _ _ _
  · refine ⟨_, cap, rfl, .inr ⟨g, 0, rfl, (Array.getElem?_eq_some_iff.1 hg).1, fun i hi => ?_⟩⟩
    have : (l.map mk)[i]? = some (mk l[i]) := by simp [hi]
    rw [← ht, List.getElem?_take_of_lt (by omega)] at this
    unfold World.cell?
    rw [hg]
    simpa using this
theorem idx22 {b o n c k : Nat} (hk : k < n) (w : World) : (Instr.indexAt 24 (.slice (some ⟨b, o, none⟩) n c) (.int .i64 k)).run Tryd.prog w = .ok (.pointer (some ⟨b, o + k, none⟩)) w := by
  rw [run_indexAt_slice (h := by kernel_rfl), if_pos (by omega)]
  have hs : (sizeOf (Tryd.prog.elem 24)).run Tryd.prog w = .ok 1 w := by kernel_rfl
  rw [hs]
  simp only [Result.andThen, Int.toNat_natCast, addr_add, Nat.mul_one]
theorem encInt_len (n : Int) (h : InR n) : (encInt n).length ≤ 21 := by
  have := itoa_len n h
  simp [encInt]; omega
theorem pInt_ok (n : Int) (hn : InR n) {K : Value → World → Prop} {w : World} (hl : Laid w) (k : ∀ w', Below w.heap.size w w' → K (.string ⟨(encInt n).toArray⟩) w') : callM Tryd.prog 63 #[.int .i64 n] K w := by
  apply sh_63_ok
  unfold sh_63
  refine itoa_ok n hn hl ?_
  intro w1 hb
  have := itoa_len n hn
  repeat (any_goals ((with_reducible refine idO ?_); (with_reducible refine oM_gen fun Kv hK=>?_); simp [go_sem]; refine And.intro (by omega) (hK _ _ ?_); clear hK; clear Kv))
  exact K_eq (k _ hb) (by simp [encInt])
theorem flat_snoc {α : Type} (enc : α → List UInt8) (xs : List α) (k : Nat) (h : k < xs.length) : ((xs.take (k + 1)).map enc).flatten = ((xs.take k).map enc).flatten ++ enc xs[k] := by
  rw [List.take_add_one, List.getElem?_eq_getElem h]
  simp only [Option.toList_some, List.map_append, List.map_cons, List.map_nil, List.flatten_append, List.flatten_cons, List.flatten_nil, List.append_nil]
theorem flat_le {α : Type} (enc : α → List UInt8) (xs : List α) (k : Nat) : ((xs.take k).map enc).flatten.length ≤ (xs.map enc).flatten.length := by
  conv => rhs; rw [← List.take_append_drop k xs]
  rw [List.map_append, List.flatten_append, List.length_append]
  omega
theorem IsBuilder.below {T e : TypeId} {B b : Nat} {bs : List Value} {w w' : World} (h : IsBuilder T e B b bs w) (hb : Below w.heap.size w w') : IsBuilder T e B b bs w' := by
  have key : ∀ p, BuilderAt T e B b p bs w → BuilderAt T e B b p bs w' := by
    rintro p ⟨hB, v, hh, hown, hne⟩
    have hlt := (Array.getElem?_eq_some_iff.1 hh).1
    refine ⟨hB, v, by rw [hb.block _ hlt]; exact hh, ?_, hne⟩
    exact hown.kept (grown_of_below hb none) (by
      rcases hown.2 with ⟨rfl, _⟩ | ⟨g, cap, cur, rfl, _⟩
      · left; rfl
      · right; simp [Value.ownBlock])
  exact h.imp (key _) (key _)
theorem encodedNum_ok (xs : List (Int)) (v : Value) {K : Value → World → Prop} {w : World} (hl : Laid w) (hrow : RowOf intV w v xs) (hx : ∀ x ∈ xs, InR x) (hlen : (encList (xs.map encInt)).length < 2^40)
    (k : ∀ w', Below w.heap.size w w' → K (.string ⟨(encList (xs.map encInt)).toArray⟩) w') : callM Tryd.prog 62 #[v, .func (.func 63) #[] #[]] K w := by
  apply sh_62_ok
  unfold sh_62
  have hsz : (encList (xs.map encInt)).length = (itoa (xs.length : Nat)).length + 1 + ((xs.map encInt).flatten).length + 1 := by simp [encList]; omega
  have hxl : xs.length ≤ (xs.map encInt).flatten.length := by
    rw [List.length_flatten]
    clear hrow hlen hsz k
    induction xs with
    | nil => simp
    | cons x xs ih =>
      have := ih (fun y hy => hx y (List.mem_cons_of_mem _ hy))
      have h1 : 1 ≤ (encInt x).length := by simp [encInt]; try omega
      simp only [List.length_cons, List.map_cons, List.sum_cons]
      omega
  have hin : InR (xs.length : Nat) := ⟨by omega, by omega⟩
  have hil := itoa_len _ hin
  obtain ⟨ad, c, rfl, hcell⟩ := hrow
  have hl0 : Laid (w.alloc (.cells #[.pointer none, .slice none 0 0] 108)) := hl.below ((Below.refl _ _).alloc (Nat.le_refl _) _) hl.size
  repeat (any_goals ((with_reducible refine idO ?_); (with_reducible refine oM_gen fun Kv hK=>?_); simp [go_sem]; refine hK _ _ ?_; clear hK; clear Kv))
  refine itoa_ok _ hin hl0 (fun w1 hb1 => ?_)
  have hb1' : Below w.heap.size w w1 := ((Below.refl _ _).alloc (Nat.le_refl _) _).trans (hb1.mono (by simp))
  have hB1 := IsBuilder.below (fresh_isBuilder 108 5 w) hb1
  have hz1 := hb1'.size
  repeat (any_goals ((with_reducible refine idO ?_); (with_reducible refine oM_gen fun Kv hK=>?_); simp [go_sem]; refine And.intro (by omega) (hK _ _ ?_); clear hK; clear Kv))
  refine writeString_ok w.heap.size _ [] _ _ hB1 (by simp; omega) (by omega) ?_
  intro w2 hB2 hb2
  have hb2' := hb1'.trans hb2
  repeat (any_goals ((with_reducible refine idO ?_); (with_reducible refine oM_gen fun Kv hK=>?_); simp [go_sem]; refine hK _ _ ?_; clear hK; clear Kv))
  refine ⟨fun l w' => ∃ (x : Value) (k : Nat), l = [x, .int .i64 k] ∧ k ≤ xs.length ∧ IsBuilder 108 5 w.heap.size w.heap.size (Lib.byteCells (itoa (xs.length : Nat) ++ 91 :: ((xs.take k).map encInt).flatten)) w' ∧ Below w.heap.size w w', fun l _ => xs.length - (match l with | [_, .int _ n] => n.toNat | _ => 0), ⟨_, 0, rfl, by omega, by simpa using hB2, hb2'⟩, ?_⟩
  rintro _ _ w3 ⟨x, j, rfl, hj, hB3, hb3⟩
  have hz3 := hb3.size
  simp only [List.getD_cons_zero, List.getD_cons_succ]
  have hfl := flat_le encInt xs j
  by_cases hlt : j < xs.length
  · rcases hcell with rfl | ⟨b, o, rfl, hbw, hcells⟩
    · simp at hlt
    have hc := hcells j hlt
    rw [← hb3.cell hbw] at hc
    simp only [intV] at hc
    have hix := idx22 (b := b) (o := o) (c := c) hlt w3
    have hl3 : Laid w3 := hl.below hb3 hl.size
    have hP := hx xs[j] (List.getElem_mem hlt)
    have hfl1 := flat_le encInt xs (j + 1)
    rw [flat_snoc _ _ _ hlt, List.length_append] at hfl1
    repeat (any_goals (first
    | (rw [oM_indexAddr, hix, rM_ok])
    | (with_reducible ((refine idCond ?_); refine yN ?_))
    | ((with_reducible refine idO ?_); (with_reducible refine oM_gen fun Kv hK=>?_); simp [go_sem, hc]; refine hK _ _ ?_; clear hK; clear Kv)))
    refine oM_callv1 (by kernel_rfl) ?_
    refine pInt_ok _ hP hl3 ?_
    intro w4 hb4
    have hz4 := hb4.size
    have hB4 : IsBuilder 108 5 w.heap.size w.heap.size (Lib.byteCells (itoa (xs.length : Nat) ++ 91 :: ((xs.take j).map encInt).flatten)) w4 := IsBuilder.below hB3 hb4
    refine writeString_ok w.heap.size _ _ _ _ hB4 (by simp only [List.length_append, List.length_cons]; omega) (by omega) ?_
    intro w5 hB5 hb5
    repeat (any_goals ((with_reducible refine idO ?_); (with_reducible refine oM_gen fun Kv hK=>?_); simp [go_sem]; (try simp (disch := omega) only [wrapI64, wrapU8, wrapU32, wrapU64]); refine hK _ _ ?_; clear hK; clear Kv))
    refine ⟨⟨_, j + 1, rfl, hlt, ?_, (hb3.trans (hb4.mono hz3)).trans hb5⟩, by simp; omega⟩
    rw [flat_snoc _ _ _ hlt]
    simpa using hB5
  · obtain rfl : j = xs.length := by omega
    rw [List.take_length] at hB3 hfl
    obtain ⟨F, hF⟩ : ∃ F, F = (xs.map encInt).flatten := ⟨_, rfl⟩
    rw [← hF] at hB3 hfl hsz
    repeat (any_goals (first
    | (with_reducible ((refine idCond ?_); refine yM ?_))
    | ((with_reducible refine idO ?_); (with_reducible refine oM_gen fun Kv hK=>?_); simp [go_sem]; refine hK _ _ ?_; clear hK; clear Kv)))
    refine builderString_ok _ _ _ _ hB3 (by omega) ?_
    intro w4 hb4
    repeat (any_goals ((with_reducible refine idO ?_); (with_reducible refine oM_gen fun Kv hK=>?_); simp [go_sem]; refine And.intro (by omega) (hK _ _ ?_); clear hK; clear Kv))
    exact K_eq (k _ (hb3.trans hb4)) (by simp [encList, hF])
theorem pNums_ok (xs : List (Int)) (v : Value) {K : Value → World → Prop} {w : World} (hl : Laid w) (hrow : RowOf intV w v xs) (hx : ∀ x ∈ xs, InR x) (hlen : (encList (xs.map encInt)).length < 2^40)
    (k : ∀ w', Below w.heap.size w w' → K (.string ⟨(encList (xs.map encInt)).toArray⟩) w') : callM Tryd.prog 49 #[v] K w := by
  apply sh_49_ok
  unfold sh_49
  skip
  exact encodedNum_ok xs v hl hrow hx hlen k
end Go.Proofs.Cd
namespace Go.Proofs
open Go Go.Sh Go.RowKit FdSpec TkSpec CodeSpec
set_option linter.unusedSimpArgs false
set_option linter.unusedVariables false
set_option maxRecDepth 10000
def tktL (t : Tkt) : List Int := [t.mark, t.first, t.z, t.a, t.b, t.r]
def encM (t : Tkt) : Bytes := encNums (tktL t)
theorem InR_iff (n : Int) : InR n ↔ I64 n := by unfold InR I64; omega
theorem TktR.all {t : Tkt} (h : TktR t) : ∀ n ∈ tktL t, I64 n := by
  intro n hn
  simp only [tktL, List.mem_cons, List.not_mem_nil, or_false] at hn
  rcases hn with rfl | rfl | rfl | rfl | rfl | rfl
  · exact h.mark
  · exact h.first
  · exact h.z
  · exact h.a
  · exact h.b
  · exact h.r
theorem encM_len {t : Tkt} (h : TktR t) : (encM t).length ≤ 200 := by
  have hi := fun n (hn : n ∈ tktL t) => Cd.encInt_len n ((InR_iff n).2 (h.all n hn))
  have h6 := itoa_len 6 (by unfold InR; omega)
  simp only [encM, encNums, encList, tktL, List.map_cons, List.map_nil, List.length_cons, List.length_nil, List.flatten_cons, List.flatten_nil, List.length_append, List.append_nil] at *
  have a1 := hi t.mark (by simp)
  have a2 := hi t.first (by simp)
  have a3 := hi t.z (by simp)
  have a4 := hi t.a (by simp)
  have a5 := hi t.b (by simp)
  have a6 := hi t.r (by simp)
  have h6' : (Lib.itoa ((0 + 1 + 1 + 1 + 1 + 1 + 1 : Nat) : Int)).length ≤ 20 := h6
  omega
section
variable {K : Value → World → Prop} {w w0 w1 : World} {L : List (Addr × Value)}
theorem sz_tkt (w : World) : (sizeOf 28).run Tryd.prog w = .ok 6 w := by kernel_rfl
theorem al_tkt (w : World) : (Instr.alloc 28 true (.tuple #[])).run Tryd.prog w = .ok (.pointer (some ⟨w.heap.size, 0, none⟩)) (w.alloc (.cells [.int .i64 0, .int .i64 0, .int .i64 0, .int .i64 0, .int .i64 0, .int .i64 0].toArray 28)) := by kernel_rfl
theorem tkt_one (t : Tkt) : ∀ u ∈ tktC t, u.oneCell' = true := by
  intro u hu
  simp only [tktC, List.mem_cons, List.not_mem_nil, or_false] at hu
  rcases hu with rfl | rfl | rfl | rfl | rfl | rfl <;> rfl
theorem local_tkt {K : Value → World → Prop} {T' T2 : TypeId} (t : Tkt) (hk : Kn w0 L w)
    (k : ∀ b W, Kn w0 (cellsOf L b 0 (tktC t)) W → Below w.heap.size w W → w.heap.size ≤ b → K (.pointer (some ⟨b, 0, none⟩)) W) :
    oM Tryd.prog (.alloc 28) T' [] (fun v w => oM Tryd.prog (.store 28 (.tmp 0) (.tmp 1)) T2 [v, tktV t] (fun _ w => K v w) w) w :=
  local_kn al_tkt rfl sz_tkt rfl rfl (tkt_one t) hk k
theorem mk6 {T : TypeId} (t : Tkt) (ht : TktR t) (k : ∀ v W, Below w.heap.size w W → Ints W v (tktL t) → K v W) : oM Tryd.prog (.buildSlice 24 6 #[(0, .tmp 0), (1, .tmp 1), (2, .tmp 2), (3, .tmp 3), (4, .tmp 4), (5, .tmp 5)]) T [.int .i64 t.mark, .int .i64 t.first, .int .i64 t.z, .int .i64 t.a, .int .i64 t.b, .int .i64 t.r] K w := by
  rw [rM_of (S := Instr.buildSlice 24 6 #[(0, .int .i64 t.mark), (1, .int .i64 t.first), (2, .int .i64 t.z), (3, .int .i64 t.a), (4, .int .i64 t.b), (5, .int .i64 t.r)]) (by simp [xop, execOp, evalL, evE])]
  have e : (Instr.buildSlice 24 6 #[(0, .int .i64 t.mark), (1, .int .i64 t.first), (2, .int .i64 t.z), (3, .int .i64 t.a), (4, .int .i64 t.b), (5, .int .i64 t.r)]).run Tryd.prog w = .ok (.slice (some ⟨w.heap.size, 0, none⟩) 6 6) (w.alloc (.cells #[.int .i64 t.mark, .int .i64 t.first, .int .i64 t.z, .int .i64 t.a, .int .i64 t.b, .int .i64 t.r] 3)) := by kernel_rfl
  rw [e]
  exact k _ _ ((Below.refl _ w).alloc (Nat.le_refl _) _) (ints_alloc w (tktL t) _ 6 ht.all (by simp [tktL]))
theorem Ints.rowOf {v : Value} {l : List Int} (h : Ints w v l) : Cd.RowOf Cd.intV w v l := by
  obtain ⟨⟨ad, c, rfl, h0, hc⟩, hr, hl⟩ := h
  refine ⟨ad, c, rfl, hc.imp id ?_⟩
  rintro ⟨b, o, rfl, hlt, hcell⟩
  exact ⟨b, o, rfl, hlt, fun i hi => hcell i _ (by rw [flat_int]; simp [hi, Cd.intV])⟩
theorem Encode_ok (t : Tkt) (ht : TktR t) (hl : Cd.Laid w) (k : ∀ w', Below w.heap.size w w' → K (.string ⟨(encM t).toArray⟩) w') : callM Tryd.prog 26 #[tktV t] K w := by
  apply sh_26_ok
  unfold sh_26
  refine box_kn (cs := tktC t) rfl (.start w) fun b W hk hb1 hb => ?_
  repeat (any_goals (first
  | ((with_reducible refine mk6 t ht ?_); intro v8 W8 hb8 hi)
  | ((with_reducible refine idO ?_); (with_reducible refine oM_gen fun Kv hK=>?_); simp [go_sem, hk.cells]; refine hK _ _ ?_; clear hK; clear Kv)))
  have hk := hk.next hb8
  refine Cd.pNums_ok (tktL t) v8 (hl.below hk.below hl.size) (Ints.rowOf hi) (fun x hx => (InR_iff x).2 (ht.all x hx)) (by have := encM_len ht; unfold encM encNums at this; omega) (fun w' hb' => ?_)
  exact k _ (hk.next hb').below
end
end Go.Proofs
namespace Go.Proofs
open Go Go.Sh Go.RowKit FdSpec TkSpec CodeSpec
set_option linter.unusedSimpArgs false
set_option linter.unusedVariables false
set_option maxRecDepth 10000
section
@[go_sem] theorem eql_tkt (T : TypeId) (a b : Tkt) : oM Tryd.prog (.binOp .eql 28 (.tmp 0) (.tmp 1) 28) T [tktV a, tktV b] = pureM (.bool (decide (a = b))) := by
  funext K w
  have h1 : (eqGuard .eql 28 (.tmp 0) (.tmp 1) (tktV a) (tktV b)).run Tryd.prog w = .ok () w := run_eqGuard_agg w _ _ _ _ _ _ (by kernel_rfl)
  have h2 : (binOp .eql 28 (tktV a) (tktV b)).run Tryd.prog w = .ok (.bool (decide (a = b))) w := by
    rw [run_eql_struct, run_equalIn_agg w 9999 28 _ _ (by kernel_rfl) (by kernel_rfl)]
    have u3 := Tryd.underlying3
    have e : decide (a = b) = ((a.mark == b.mark) && (a.first == b.first) && (a.z == b.z) && (a.a == b.a) && (a.b == b.b) && (a.r == b.r)) := by
      obtain ⟨a1, a2, a3, a4, a5, a6⟩ := a
      obtain ⟨b1, b2, b3, b4, b5, b6⟩ := b
      simp [Tkt.mk.injEq, and_assoc, Bool.and_assoc]
      rfl
    rw [e]
    simp [go_sem, Program.fieldsOf, Tryd.underlying28, Op.eqFields, part, u3]
    repeat' split
    all_goals simp_all
  unfold oM opM
  simp [xop, execOp, evalL, evE, h1, h2]
  exact Iff.rfl
@[go_sem] theorem eql_off (T : TypeId) (a b : Off) : oM Tryd.prog (.binOp .eql 56 (.tmp 0) (.tmp 1) 56) T [offV a, offV b] = pureM (.bool (decide (a = b))) := by
  funext K w
  have h1 : (eqGuard .eql 56 (.tmp 0) (.tmp 1) (offV a) (offV b)).run Tryd.prog w = .ok () w := run_eqGuard_agg w _ _ _ _ _ _ (by kernel_rfl)
  have h2 : (binOp .eql 56 (offV a) (offV b)).run Tryd.prog w = .ok (.bool (decide (a = b))) w := by
    rw [run_eql_struct, run_equalIn_agg w 9999 56 _ _ (by kernel_rfl) (by kernel_rfl)]
    have u3 := Tryd.underlying3
    have e : decide (a = b) = ((a.z == b.z) && (a.a == b.a) && (a.b == b.b)) := by
      obtain ⟨a1, a2, a3⟩ := a
      obtain ⟨b1, b2, b3⟩ := b
      simp [Off.mk.injEq, and_assoc, Bool.and_assoc]
      rfl
    rw [e]
    simp [go_sem, Program.fieldsOf, Tryd.underlying56, Op.eqFields, part, u3]
    repeat' split
    all_goals simp_all
  unfold oM opM
  simp [xop, execOp, evalL, evE, h1, h2]
  exact Iff.rfl
end
end Go.Proofs
namespace Go.Proofs
open Go Go.Sh Go.RowKit FdSpec TkSpec CodeSpec
set_option linter.unusedSimpArgs false
set_option linter.unusedVariables false
set_option maxRecDepth 10000
theorem dig1 {u : Nat} (h : u < 10) : Lib.decDigits u = [UInt8.ofNat (48 + u)] := by rw [Lib.decDigits]; simp [h]
theorem dig2 {u : Nat} (h : 10 ≤ u) (h2 : u < 100) : Lib.decDigits u = [UInt8.ofNat (48 + u / 10), UInt8.ofNat (48 + u % 10)] := by
  rw [Lib.decDigits, dif_neg (by omega), dig1 (by omega)]; rfl
theorem enc_t0 : encM t0 = [54, 91, 56, 59, 49, 56, 59, 57, 59, 49, 54, 59, 49, 51, 59, 48, 59, 93] := by
  have e0 : Lib.itoa (0 : Int) = [48] := by rw [Lib.itoa, if_neg (by omega)]; simp [dig1]
  have e6 : Lib.itoa (6 : Int) = [54] := by rw [Lib.itoa, if_neg (by omega)]; simp [dig1]
  have e8 : Lib.itoa (8 : Int) = [56] := by rw [Lib.itoa, if_neg (by omega)]; simp [dig1]
  have e9 : Lib.itoa (9 : Int) = [57] := by rw [Lib.itoa, if_neg (by omega)]; simp [dig1]
  have e18 : Lib.itoa (18 : Int) = [49, 56] := by rw [Lib.itoa, if_neg (by omega)]; simp [dig2]
  have e16 : Lib.itoa (16 : Int) = [49, 54] := by rw [Lib.itoa, if_neg (by omega)]; simp [dig2]
  have e13 : Lib.itoa (13 : Int) = [49, 51] := by rw [Lib.itoa, if_neg (by omega)]; simp [dig2]
  simp [encM, encNums, encList, tktL, t0, encInt, e0, e6, e8, e9, e18, e16, e13]
section
variable {K : Value → World → Prop} {w w0 w1 : World} {L : List (Addr × Value)}
theorem mk3 {T : TypeId} (x y z : Int) (hx : I64 x) (hy : I64 y) (hz : I64 z) (k : ∀ ad c W, Below w.heap.size w W → Ints W (.slice ad 3 c) [x, y, z] → K (.slice ad 3 c) W) : oM Tryd.prog (.buildSlice 24 3 #[(0, .tmp 0), (1, .tmp 1), (2, .tmp 2)]) T [.int .i64 x, .int .i64 y, .int .i64 z] K w := by
  rw [oM_buildSlice3]
  have e : (Instr.buildSlice 24 3 #[(0, .int .i64 x), (1, .int .i64 y), (2, .int .i64 z)]).run Tryd.prog w = .ok (.slice (some ⟨w.heap.size, 0, none⟩) 3 3) (w.alloc (.cells #[.int .i64 x, .int .i64 y, .int .i64 z] 3)) := by kernel_rfl
  rw [e]
  exact k _ _ _ ((Below.refl _ w).alloc (Nat.le_refl _) _) (ints_alloc w [x, y, z] _ 3 (by simp; exact ⟨hx, hy, hz⟩) (by simp))
theorem sz_stp (w : World) : (sizeOf 26).run Tryd.prog w = .ok 5 w := by kernel_rfl
theorem al_stp (w : World) : (Instr.alloc 26 true (.tuple #[])).run Tryd.prog w = .ok (.pointer (some ⟨w.heap.size, 0, none⟩)) (w.alloc (.cells [.int .i64 0, .int .i64 0, .int .i64 0, .slice none 0 0, .int .i64 0].toArray 26)) := by kernel_rfl
theorem sz_bld (w : World) : (sizeOf 47).run Tryd.prog w = .ok 4 w := by kernel_rfl
theorem al_bld (w : World) : (Instr.alloc 47 true (.tuple #[])).run Tryd.prog w = .ok (.pointer (some ⟨w.heap.size, 0, none⟩)) (w.alloc (.cells [.int .i64 0, .int .i64 0, .int .i64 0, .slice none 0 0].toArray 47)) := by kernel_rfl
theorem bld_one (b : Bld) (ad : Option Addr) (n c : Nat) : ∀ u ∈ bldC b (.slice ad n c), u.oneCell' = true := by
  intro u hu
  simp only [bldC, List.mem_cons, List.not_mem_nil, or_false] at hu
  rcases hu with rfl | rfl | rfl | rfl <;> rfl
theorem local_stp {K : Value → World → Prop} {T' T2 : TypeId} (s : Stp) (ad : Option Addr) (m c : Nat) (hk : Kn w0 L w)
    (k : ∀ b W, Kn w0 (cellsOf L b 0 (stpC s (.slice ad m c))) W → Below w.heap.size w W → w.heap.size ≤ b → K (.pointer (some ⟨b, 0, none⟩)) W) :
    oM Tryd.prog (.alloc 26) T' [] (fun v w => oM Tryd.prog (.store 26 (.tmp 0) (.tmp 1)) T2 [v, stpV s (.slice ad m c)] (fun _ w => K v w) w) w :=
  local_kn al_stp rfl sz_stp rfl rfl (stp_one s ad m c) hk k
theorem local_bld {K : Value → World → Prop} {T' T2 : TypeId} (b : Bld) (ad : Option Addr) (m c : Nat) (hk : Kn w0 L w)
    (k : ∀ g W, Kn w0 (cellsOf L g 0 (bldC b (.slice ad m c))) W → Below w.heap.size w W → w.heap.size ≤ g → K (.pointer (some ⟨g, 0, none⟩)) W) :
    oM Tryd.prog (.alloc 47) T' [] (fun v w => oM Tryd.prog (.store 47 (.tmp 0) (.tmp 1)) T2 [v, bldV b (.slice ad m c)] (fun _ w => K v w) w) w :=
  local_kn al_bld rfl sz_bld rfl rfl (bld_one b ad m c) hk k
theorem local_off {K : Value → World → Prop} {T' T2 : TypeId} (o : Off) (hk : Kn w0 L w)
    (k : ∀ g W, Kn w0 (cellsOf L g 0 [.int .i64 o.z, .int .i64 o.a, .int .i64 o.b]) W → Below w.heap.size w W → w.heap.size ≤ g → K (.pointer (some ⟨g, 0, none⟩)) W) :
    oM Tryd.prog (.alloc 56) T' [] (fun v w => oM Tryd.prog (.store 56 (.tmp 0) (.tmp 1)) T2 [v, offV o] (fun _ w => K v w) w) w :=
  local_kn al_off rfl sz_off rfl rfl (off_one o) hk k
theorem local_spe {K : Value → World → Prop} {T' T2 : TypeId} (x : Spd) (ad : Option Addr) (m c : Nat) (hk : Kn w0 L w)
    (k : ∀ g W, Kn w0 (cellsOf L g 0 (spdC x (.slice ad m c))) W → Below w.heap.size w W → w.heap.size ≤ g → K (.pointer (some ⟨g, 0, none⟩)) W) :
    oM Tryd.prog (.alloc 30) T' [] (fun v w => oM Tryd.prog (.store 30 (.tmp 0) (.tmp 1)) T2 [v, spdV x (.slice ad m c)] (fun _ w => K v w) w) w :=
  local_kn al_spd rfl sz_spd rfl rfl (spd_one x ad m c) hk k
theorem i64lit {n : Int} (h : -9223372036854775808 ≤ n ∧ n < 9223372036854775808 := by decide) : I64 n := h
structure SE (sv av yv : Value) (w' : World) : Prop where
  setup : SetR w' s0 sv
  at' : Ints w' av [5, 7]
  bl : BldR w' b0 yv
  ld : Cd.Laid w'
theorem SE.next {sv av yv : Value} {w w' : World} (h : SE sv av yv w) (hb : Below w.heap.size w w') : SE sv av yv w' :=
  ⟨h.setup.next hb, h.at'.next hb, h.bl.next hb, h.ld.below hb h.ld.size⟩
theorem t0_R : TktR t0 := ⟨i64lit, i64lit, i64lit, i64lit, i64lit, i64lit⟩
@[reducible] def x0 : Spd := ⟨2, [9, 9, 4]⟩
@[reducible] def y0 : Spd := ⟨5, [10, 3, 0]⟩
@[reducible] def z0 : Spd := ⟨3, [9, 9, 4]⟩
theorem sane_ok (hT : DbT w) (hL : Cd.Laid w) (k : ∀ w', Below w.heap.size w w' → K (.bool true) w') : callM Tryd.prog 5 #[] K w := by
  apply sh_5_ok
  unfold sh_5
  obtain ⟨f1, f2, f3, f4, f5, f6, f7, f8, f9, f10, f11, f12, f13, f14, f15⟩ := sane_facts
  have hk : Kn w [] w := .start w
  iterate 1 (any_goals ((with_reducible refine idO ?_); (with_reducible refine oM_gen fun Kv hK=>?_); simp [go_sem]; refine hK _ _ ?_; clear hK; clear Kv))
  refine mk3 4 16 18 i64lit i64lit i64lit (fun ad c W1 hb1 hbs => ?_)
  have hk := hk.next hb1
  have hs : SetR W1 s0 (.slice ad 3 c) := ⟨⟨i64lit, i64lit, i64lit⟩, hbs, i64lit, hT.next hb1⟩
  iterate 1 (any_goals ((with_reducible refine idO ?_); (with_reducible refine oM_gen fun Kv hK=>?_); simp [go_sem]; refine hK _ _ ?_; clear hK; clear Kv))
  refine local_stp s0 ad 3 c hk (fun gs W2 hk hb2 hg2 => ?_)
  refine mk2 5 7 i64lit i64lit (fun v3 W3 hb3 hat => ?_)
  have hk := hk.next hb3
  refine mk3 1 2 3 i64lit i64lit i64lit (fun yad yc W4 hb4 hys => ?_)
  have hk := hk.next hb4
  iterate 1 (any_goals ((with_reducible refine idO ?_); (with_reducible refine oM_gen fun Kv hK=>?_); simp [go_sem]; refine hK _ _ ?_; clear hK; clear Kv))
  refine local_bld b0 yad 3 yc hk (fun gb W5 hk hb5 hg5 => ?_)
  have hW1 := (hb2.on hb3).on (hb4.on hb5)
  have E : SE (.slice ad 3 c) v3 (.slice yad 3 yc) W5 := ⟨hs.next hW1, hat.next (hb4.on hb5), ⟨i64lit, i64lit, i64lit, hys.next hb5⟩, hL.below hk.below hL.size⟩
  repeat (any_goals ((with_reducible refine idO ?_); (with_reducible refine oM_gen fun Kv hK=>?_); simp [go_sem, hk.cells]; refine hK _ _ ?_; clear hK; clear Kv))
  refine Propose_ok s0 3 2 i64lit i64lit E.setup E.at' (fun w1 h1 => ?_)
  rw [f1]
  have hk := hk.next h1
  have E := E.next h1
  iterate 2 (any_goals ((with_reducible refine idO ?_); (with_reducible refine oM_gen fun Kv hK=>?_); simp [go_sem]; refine hK _ _ ?_; clear hK; clear Kv))
  refine local_off ⟨9, 16, 13⟩ hk (fun go W6 hk hb6 hg6 => ?_)
  have E := E.next hb6
  repeat (any_goals ((with_reducible refine idO ?_); (with_reducible refine oM_gen fun Kv hK=>?_); simp [go_sem, hk.cells]; refine hK _ _ ?_; clear hK; clear Kv))
  refine Use_ok s0 b0 2 i64lit E.setup E.at' E.bl (fun w2 ov2 h2 hi2 => ?_)
  rw [f2] at hi2 ⊢
  obtain ⟨ad2, c2, rfl⟩ := hi2.isSlice
  have hk := hk.next h2
  have E := E.next h2
  iterate 2 (any_goals ((with_reducible refine idO ?_); (with_reducible refine oM_gen fun Kv hK=>?_); simp [go_sem]; refine hK _ _ ?_; clear hK; clear Kv))
  refine local_spe x0 ad2 3 c2 hk (fun gx W7 hk hb7 hg7 => ?_)
  have E := E.next hb7
  have X : SpdR W7 x0 (.slice ad2 3 c2) := ⟨i64lit, hi2.next hb7⟩
  repeat (any_goals ((with_reducible refine idO ?_); (with_reducible refine oM_gen fun Kv hK=>?_); simp [go_sem, hk.cells]; refine hK _ _ ?_; clear hK; clear Kv))
  refine Use_ok s0 b0 5 i64lit E.setup E.at' E.bl (fun w3 ov3 h3 hi3 => ?_)
  rw [f3] at hi3 ⊢
  obtain ⟨ad3, c3, rfl⟩ := hi3.isSlice
  have hk := hk.next h3
  have E := E.next h3
  have X := X.next h3
  iterate 2 (any_goals ((with_reducible refine idO ?_); (with_reducible refine oM_gen fun Kv hK=>?_); simp [go_sem]; refine hK _ _ ?_; clear hK; clear Kv))
  refine local_spe y0 ad3 3 c3 hk (fun gy W8 hk hb8 hg8 => ?_)
  have E := E.next hb8
  have X := X.next hb8
  have Y : SpdR W8 y0 (.slice ad3 3 c3) := ⟨i64lit, hi3.next hb8⟩
  iterate 1 (any_goals ((with_reducible refine idO ?_); (with_reducible refine oM_gen fun Kv hK=>?_); simp [go_sem]; refine hK _ _ ?_; clear hK; clear Kv))
  refine local_tkt t0 hk (fun gt W9 hk hb9 hg9 => ?_)
  have E := E.next hb9
  have X := X.next hb9
  have Y := Y.next hb9
  repeat (any_goals ((with_reducible refine idO ?_); (with_reducible refine oM_gen fun Kv hK=>?_); simp [go_sem, hk.cells]; refine hK _ _ ?_; clear hK; clear Kv))
  refine Trace_ok s0 t0 x0 y0 t0_R E.setup X Y (fun w4 ov4 h4 hi4 => ?_)
  rw [f4] at hi4 ⊢
  have hk := hk.next h4
  have E := E.next h4
  have X := X.next h4
  have Y := Y.next h4
  repeat (any_goals ((with_reducible refine idO ?_); (with_reducible refine oM_gen fun Kv hK=>?_); simp [go_sem, hk.cells]; refine hK _ _ ?_; clear hK; clear Kv))
  refine Trace_ok s0 t0 x0 x0 t0_R E.setup X X (fun w5 ov5 h5 hi5 => ?_)
  rw [f5]
  have hk := hk.next h5
  have E := E.next h5
  have X := X.next h5
  have Y := Y.next h5
  have hi4 := hi4.next h5
  repeat (any_goals (first
  | ((with_reducible refine mk3 9 9 4 i64lit i64lit i64lit ?_); intro ad6 c6 w6 h6 hi6)
  | ((with_reducible refine idO ?_); (with_reducible refine oM_gen fun Kv hK=>?_); simp [go_sem, hk.cells]; refine hK _ _ ?_; clear hK; clear Kv)))
  have hk := hk.next h6
  have E := E.next h6
  have X := X.next h6
  have Y := Y.next h6
  have hi4 := hi4.next h6
  refine Same_ok X.answers hi6 (fun w7 h7 => ?_)
  rw [decide_eq_true rfl]
  have hk := hk.next h7
  have E := E.next h7
  have X := X.next h7
  have Y := Y.next h7
  have hi4 := hi4.next h7
  repeat (any_goals (first
  | ((with_reducible refine mk3 10 3 0 i64lit i64lit i64lit ?_); intro ad8 c8 w8 h8 hi8)
  | (with_reducible ((refine idGd ?_); refine zC ?_))
  | ((with_reducible refine idO ?_); (with_reducible refine oM_gen fun Kv hK=>?_); simp [go_sem, hk.cells]; refine hK _ _ ?_; clear hK; clear Kv)))
  have hk := hk.next h8
  have E := E.next h8
  have X := X.next h8
  have Y := Y.next h8
  have hi4 := hi4.next h8
  refine Same_ok Y.answers hi8 (fun w9 h9 => ?_)
  rw [decide_eq_true rfl]
  have hk := hk.next h9
  have E := E.next h9
  have X := X.next h9
  have Y := Y.next h9
  have hi4 := hi4.next h9
  repeat (any_goals (first
  | (with_reducible first|refine pureM_in ?_|((refine idGd ?_); refine zC ?_)|((refine idPick ?_); refine yC ?_))
  | ((with_reducible refine idO ?_); (with_reducible refine oM_gen fun Kv hK=>?_); simp [go_sem, hk.cells]; refine hK _ _ ?_; clear hK; clear Kv)))
  refine Same_ok hi4 E.at' (fun w10 h10 => ?_)
  rw [decide_eq_true rfl]
  have hk := hk.next h10
  have E := E.next h10
  have X := X.next h10
  have Y := Y.next h10
  repeat (any_goals (first
  | ((with_reducible refine local_spe z0 ad2 3 c2 hk ?_); intro gz W11 hk hb11 hg11)
  | (with_reducible first|refine pureM_in ?_|((refine idGd ?_); refine zC ?_)|((refine idPick ?_); refine yC ?_)|((refine idCond ?_); refine yM ?_))
  | ((with_reducible refine idO ?_); (with_reducible refine oM_gen fun Kv hK=>?_); simp [go_sem, hk.cells]; refine hK _ _ ?_; clear hK; clear Kv)))
  have E := E.next hb11
  have X := X.next hb11
  have Y := Y.next hb11
  have Z : SpdR W11 z0 (.slice ad2 3 c2) := ⟨i64lit, X.answers⟩
  refine Mark_ok s0 E.setup E.at' (fun w12 h12 => ?_)
  rw [f6]
  have hk := hk.next h12
  have E := E.next h12
  have X := X.next h12
  have Y := Y.next h12
  have Z := Z.next h12
  repeat (any_goals (first
  | (with_reducible first|refine pureM_in ?_|((refine idGd ?_); refine zA ?_))
  | ((with_reducible refine idO ?_); (with_reducible refine oM_gen fun Kv hK=>?_); simp [go_sem, hk.cells]; refine hK _ _ ?_; clear hK; clear Kv)))
  refine Usable_ok s0 E.setup E.at' (fun w13 h13 => ?_)
  rw [f7]
  have hk := hk.next h13
  have E := E.next h13
  have X := X.next h13
  have Y := Y.next h13
  have Z := Z.next h13
  repeat (any_goals (first
  | ((with_reducible refine mk2 5 0 i64lit i64lit ?_); intro v14 w14 h14 hi14)
  | (with_reducible first|((refine idGd ?_); refine zA ?_)|((refine idPick ?_); refine yB ?_))
  | ((with_reducible refine idO ?_); (with_reducible refine oM_gen fun Kv hK=>?_); simp [go_sem, hk.cells]; refine hK _ _ ?_; clear hK; clear Kv)))
  have hk := hk.next h14
  have E := E.next h14
  have X := X.next h14
  have Y := Y.next h14
  have Z := Z.next h14
  refine Usable_ok s0 E.setup hi14 (fun w15 h15 => ?_)
  rw [f8]
  have hk := hk.next h15
  have E := E.next h15
  have X := X.next h15
  have Y := Y.next h15
  have Z := Z.next h15
  repeat (any_goals (first
  | (with_reducible first|((refine idGd ?_); refine zA ?_)|((refine idPick ?_); refine yB ?_))
  | ((with_reducible refine idO ?_); (with_reducible refine oM_gen fun Kv hK=>?_); simp [go_sem, hk.cells]; refine hK _ _ ?_; clear hK; clear Kv)))
  refine Public_ok s0 3 i64lit E.setup (fun w16 h16 => ?_)
  rw [f9]
  have hk := hk.next h16
  have E := E.next h16
  have X := X.next h16
  have Y := Y.next h16
  have Z := Z.next h16
  repeat (any_goals (first
  | (with_reducible first|((refine idGd ?_); refine zA ?_)|((refine idPick ?_); refine yB ?_))
  | ((with_reducible refine idO ?_); (with_reducible refine oM_gen fun Kv hK=>?_); simp [go_sem, hk.cells]; refine hK _ _ ?_; clear hK; clear Kv)))
  refine Public_ok s0 0 i64lit E.setup (fun w17 h17 => ?_)
  rw [f10]
  have hk := hk.next h17
  have E := E.next h17
  have X := X.next h17
  have Y := Y.next h17
  have Z := Z.next h17
  repeat (any_goals (first
  | (with_reducible first|((refine idGd ?_); refine zA ?_)|((refine idPick ?_); refine yB ?_))
  | ((with_reducible refine idO ?_); (with_reducible refine oM_gen fun Kv hK=>?_); simp [go_sem, hk.cells]; refine hK _ _ ?_; clear hK; clear Kv)))
  rw [eql_off _ ⟨9, 16, 13⟩ ⟨9, 16, 13⟩, decide_eq_true rfl]
  repeat (any_goals (first
  | (with_reducible first|refine pureM_in ?_|((refine idGd ?_); refine zA ?_)|((refine idPick ?_); refine yB ?_))
  | ((with_reducible refine idO ?_); (with_reducible refine oM_gen fun Kv hK=>?_); simp [go_sem, hk.cells]; refine hK _ _ ?_; clear hK; clear Kv)))
  refine Grant_ok s0 3 2 6 i64lit i64lit i64lit E.setup (fun w18 h18 => ?_)
  rw [f11]
  have hk := hk.next h18
  have E := E.next h18
  have X := X.next h18
  have Y := Y.next h18
  have Z := Z.next h18
  repeat (any_goals (first
  | (with_reducible first|((refine idGd ?_); refine zA ?_)|((refine idPick ?_); refine yB ?_))
  | ((with_reducible refine idO ?_); (with_reducible refine oM_gen fun Kv hK=>?_); simp [go_sem, hk.cells]; refine hK _ _ ?_; clear hK; clear Kv)))
  refine Accepts_ok s0 t0 x0 t0_R E.setup X (fun w19 h19 => ?_)
  rw [f12]
  have hk := hk.next h19
  have E := E.next h19
  have X := X.next h19
  have Y := Y.next h19
  have Z := Z.next h19
  repeat (any_goals (first
  | (with_reducible first|((refine idGd ?_); refine zA ?_)|((refine idPick ?_); refine yB ?_))
  | ((with_reducible refine idO ?_); (with_reducible refine oM_gen fun Kv hK=>?_); simp [go_sem, hk.cells]; refine hK _ _ ?_; clear hK; clear Kv)))
  refine Accepts_ok s0 t0 y0 t0_R E.setup Y (fun w20 h20 => ?_)
  rw [f13]
  have hk := hk.next h20
  have E := E.next h20
  have X := X.next h20
  have Y := Y.next h20
  have Z := Z.next h20
  repeat (any_goals (first
  | (with_reducible first|((refine idGd ?_); refine zA ?_)|((refine idPick ?_); refine yB ?_))
  | ((with_reducible refine idO ?_); (with_reducible refine oM_gen fun Kv hK=>?_); simp [go_sem, hk.cells]; refine hK _ _ ?_; clear hK; clear Kv)))
  refine Accepts_ok s0 t0 z0 t0_R E.setup Z (fun w21 h21 => ?_)
  rw [f14]
  have hk := hk.next h21
  have E := E.next h21
  have X := X.next h21
  have Y := Y.next h21
  have Z := Z.next h21
  repeat (any_goals (first
  | (with_reducible first|refine pureM_in ?_|((refine idGd ?_); refine zA ?_)|((refine idPick ?_); refine yB ?_))
  | ((with_reducible refine idO ?_); (with_reducible refine oM_gen fun Kv hK=>?_); simp [go_sem, hk.cells]; refine hK _ _ ?_; clear hK; clear Kv)))
  refine Guilty_ok s0 t0 x0 y0 t0_R E.setup X Y E.at' (fun w22 h22 => ?_)
  rw [f15]
  have hk := hk.next h22
  have E := E.next h22
  have X := X.next h22
  have Y := Y.next h22
  have Z := Z.next h22
  repeat (any_goals (first
  | (with_reducible first|((refine idGd ?_); refine zA ?_)|((refine idPick ?_); refine yB ?_))
  | ((with_reducible refine idO ?_); (with_reducible refine oM_gen fun Kv hK=>?_); simp [go_sem, hk.cells]; refine hK _ _ ?_; clear hK; clear Kv)))
  refine Encode_ok t0 t0_R E.ld (fun w23 h23 => ?_)
  rw [enc_t0]
  have hk := hk.next h23
  repeat (any_goals (first
  | (with_reducible first|((refine idGd ?_); refine zA ?_)|((refine idPick ?_); refine yB ?_))
  | ((with_reducible refine idO ?_); (with_reducible refine oM_gen fun Kv hK=>?_); simp [go_sem]; refine hK _ _ ?_; clear hK; clear Kv)))
  exact k _ hk.below
end
end Go.Proofs
set_option linter.unusedVariables false
set_option maxRecDepth 100000
namespace Go.Proofs
open Go.Sh
def sh_6 (a0 : Value) (a1 : Value) (K : Value → World → Prop) (w : World) : Prop :=
 oM Tryd.prog (.box 26 (.tmp 0)) 0 [a0] (fun v2_1 w =>
 loopM [(.bool false), (.int .i64 0)] w (fun J_2 m_3 l_4 u_l_4 w0_l_4 => (fun w => (
 oM Tryd.prog (.call (Go.Call.mk (.builtin .len) #[(.tmp 0)] #[33])) 3 [a1] (fun v8_5 w =>
 oM Tryd.prog (.binOp .lss 3 (.tmp 0) (.tmp 1) 3) 4 [(l_4.getD 1 undef), v8_5] (fun v9_6 w =>
 condM v9_6
 (oM Tryd.prog (.indexAddr 33 (.tmp 0) (.tmp 1)) 0 [a1, (l_4.getD 1 undef)] (fun v14_7 w =>
 oM Tryd.prog (.load 24 (.tmp 0)) 24 [v14_7] (fun v15_8 w =>
 oM Tryd.prog (.call (Go.Call.mk (.builtin .len) #[(.tmp 0)] #[24])) 3 [v15_8] (fun v16_9 w =>
 oM Tryd.prog (.binOp .gtr 3 (.tmp 0) (.tmp 1) 3) 4 [v16_9, (.int .i64 9)] (fun v17_10 w =>
 condM v17_10
 (K (.bool false) w)
 (oM Tryd.prog (.binOp .add 3 (.tmp 0) (.tmp 1) 3) 3 [(l_4.getD 1 undef), (.int .i64 1)] (fun v11_11 w =>
 J_2 [(l_4.getD 0 undef), v11_11] w ∧ m_3 [(l_4.getD 0 undef), v11_11] w < m_3 l_4 w0_l_4) w)) w) w) w) w)
 (oM Tryd.prog (.fieldAddr 26 (.tmp 0) 1) 0 [v2_1] (fun v18_12 w =>
 oM Tryd.prog (.load 24 (.tmp 0)) 24 [v18_12] (fun v19_13 w =>
 oM Tryd.prog (.call (Go.Call.mk (.builtin .len) #[(.tmp 0)] #[24])) 3 [v19_13] (fun v20_14 w =>
 oM Tryd.prog (.binOp .leq 3 (.tmp 0) (.tmp 1) 3) 4 [v20_14, (.int .i64 9)] (fun v21_15 w =>
 K v21_15 w) w) w) w) w)) w) w)) w0_l_4)) w
theorem sh_6_eq (a0 : Value) (a1 : Value) (K : Value → World → Prop) (w : World) : sh_6 a0 a1 K w = code Tryd.prog (fun _ => 0) 22 (Tryd.f6.body.getD .skip) (slotsAt [a0, a1]) (retK Tryd.prog [.tmp 4] K) w := by kernel_rfl
theorem sh_6_ok {a0 a1 : Value} {K : Value → World → Prop} {w : World} (h : sh_6 a0 a1 K w) : callM Tryd.prog 6 #[a0, a1] K w :=
  calls_of_code (fun _ => 0) (fn := Tryd.f6) (rs := [.tmp 4]) Tryd.func6 rfl rfl (by kernel_rfl) (Nat.le_of_ble_eq_true rfl) ((sh_6_eq a0 a1 K w).mp h)
def sh_10 (a0 : Value) (K : Value → World → Prop) (w : World) : Prop :=
 oM Tryd.prog (.buildSlice 24 1 #[(0, (.tmp 0))]) 24 [(.int .i64 1)] (fun v3_1 w =>
 oM Tryd.prog (.call (Go.Call.mk (.builtin .append) #[(.tmp 0), (.tmp 1)] #[24, 24])) 24 [v3_1, a0] (fun v5_2 w =>
 K v5_2 w) w) w
theorem sh_10_eq (a0 : Value) (K : Value → World → Prop) (w : World) : sh_10 a0 K w = code Tryd.prog (fun _ => 0) 6 (Tryd.f10.body.getD .skip) (slotsAt [a0]) (retK Tryd.prog [.tmp 2] K) w := by kernel_rfl
theorem sh_10_ok {a0 : Value} {K : Value → World → Prop} {w : World} (h : sh_10 a0 K w) : callM Tryd.prog 10 #[a0] K w :=
  calls_of_code (fun _ => 0) (fn := Tryd.f10) (rs := [.tmp 2]) Tryd.func10 rfl rfl (by kernel_rfl) (Nat.le_of_ble_eq_true rfl) ((sh_10_eq a0 K w).mp h)
end Go.Proofs
namespace Go.Proofs
open Go Go.Sh Go.RowKit FdSpec TkSpec CodeSpec
set_option linter.unusedSimpArgs false
set_option linter.unusedVariables false
set_option maxRecDepth 10000
section
variable {K : Value → World → Prop} {w w0 : World} {L : List (Addr × Value)}
def fewM (s : Stp) (ns : List Nat) : Bool := ns.all (fun n => decide (n ≤ 9)) && decide (s.bases.length ≤ 9)
def FwJ (w : World) (L : List (Addr × Value)) (R : Bool) (ns : List Nat) : List Value → World → Prop := fun l w' => Kn w L w' ∧ ∃ u i, l = [u, .int .i64 (i : Nat)] ∧ i ≤ ns.length ∧ (ns.drop i).all (fun n => decide (n ≤ 9)) = R
def fwMu (n : Nat) : List Value → World → Nat := fun l _ => match l with | [_, .int _ i] => n - i.toNat | _ => 0
theorem fwMu_eq (n : Nat) (u : Value) (k : IntKind) (i : Int) (w : World) : fwMu n [u, .int k i] w = n - i.toNat := rfl
@[go_sem] theorem idx_ll (T : TypeId) (b o n c : Nat) (x : Int) : oM Tryd.prog (.indexAddr 33 (.tmp 0) (.tmp 1)) T [.slice (some ⟨b, o, none⟩) n c, .int .i64 x] = onM (0 ≤ x ∧ x < n) (.pointer (some ⟨b, o + x.toNat, none⟩)) := by
  funext K w
  rw [oM_indexAddr, run_indexAt_slice (h := by kernel_rfl)]
  have hs : (sizeOf (Tryd.prog.elem 33)).run Tryd.prog w = .ok 1 w := by kernel_rfl
  by_cases hi : 0 ≤ x ∧ x < n
  · rw [if_pos hi, hs]
    simp only [Result.andThen, add_none, Nat.mul_one, rM_ok]
    exact propext ⟨fun h => ⟨hi, h⟩, fun h => h.2⟩
  · rw [if_neg hi]
    obtain ⟨e', w', he⟩ := halts Value Tryd.prog .i64 x n .index w
    rw [he]
    exact propext ⟨fun h => h.elim, fun h => hi h.1⟩
theorem Few_ok (s : Stp) (g c : Nat) (ns : List Nat) {v : Value} (hs : SetR w s v) (hg : g < w.heap.size) (hc : ∀ i (h : i < ns.length), ∃ ad c, w.cell? ⟨g, i, none⟩ = some (.slice ad ns[i] c)) (hn : ns.length < 1000) (k : ∀ w', Below w.heap.size w w' → K (.bool (fewM s ns)) w') : callM Tryd.prog 6 #[stpV s v, .slice (some ⟨g, 0, none⟩) ns.length c] K w := by
  apply sh_6_ok
  unfold sh_6
  obtain ⟨ad, cc, rfl⟩ := hs.ints.isSlice
  refine box_kn (cs := stpC s (.slice ad s.bases.length cc)) rfl (.start w) fun b W hk hb1 hb => ?_
  unfold fewM at k
  skip
  refine ⟨FwJ w _ (ns.all (fun n => decide (n ≤ 9))) ns, fwMu ns.length, ⟨hk, _, 0, rfl, by omega, rfl⟩, ?_⟩
  generalize ns.all (fun n => decide (n ≤ 9)) = R at *
  rintro _ _ w1 ⟨hk, u, i, rfl, hi, ha⟩
  by_cases hin : i = ns.length
  · rw [List.drop_of_length_le (by omega)] at ha
    have el : decide ((s.bases.length : Int) ≤ 9) = decide (s.bases.length ≤ 9) := decide_eq_decide.2 (by omega)
    repeat (any_goals (first
    | (with_reducible ((refine idCond ?_); refine yO ?_))
    | ((with_reducible refine idO ?_); (with_reducible refine oM_gen fun Kv hK=>?_); simp [go_sem, hk.cells]; refine hK _ _ ?_; clear hK; clear Kv)))
    rw [el]
    rw [show R = true from ha.symm, Bool.true_and] at k
    exact k _ hk.below
  · rw [List.drop_eq_getElem_cons (by omega), List.all_cons] at ha
    obtain ⟨ad2, c2, hcc⟩ := hc i (by omega)
    have hcell : w1.cell? ⟨g, i, none⟩ = some (.slice ad2 ns[i] c2) := by rw [hk.below.cell hg]; exact hcc
    generalize ns[i] = x at *
    by_cases hx : x ≤ 9
    · rw [decide_eq_true hx, Bool.true_and] at ha
      have hx' : (x : Int) ≤ 9 := by omega
      repeat (any_goals (first
      | (with_reducible ((refine idCond ?_); first|refine yN ?_|refine yO ?_))
      | ((with_reducible refine idO ?_); (with_reducible refine oM_gen fun Kv hK=>?_); simp [go_sem, hcell, hx']; (try simp (disch := omega) only [wrapI64, wrapU8, wrapU32, wrapU64]); (first|refine hK _ _ ?_|refine And.intro (by omega) (hK _ _ ?_)); clear hK; clear Kv)))
      refine ⟨⟨hk, _, i + 1, rfl, by omega, ha⟩, ?_⟩
      simp only [fwMu_eq]; omega
    · rw [decide_eq_false hx, Bool.false_and] at ha
      subst ha
      have hx' : ¬ (x : Int) ≤ 9 := by omega
      repeat (any_goals (first
      | (with_reducible ((refine idCond ?_); refine yN ?_))
      | ((with_reducible refine idO ?_); (with_reducible refine oM_gen fun Kv hK=>?_); simp [go_sem, hcell, hx']; (first|refine hK _ _ ?_|refine And.intro (by omega) (hK _ _ ?_)); clear hK; clear Kv)))
      exact k _ hk.below
theorem mkI1 {T : TypeId} (x : Int) (k : ∀ v W, Below w.heap.size w W → OwnI W w.heap.size v [x] → K v W) : oM Tryd.prog (.buildSlice 24 1 #[(0, .tmp 0)]) T [.int .i64 x] K w := by
  rw [oM_buildSlice1]
  have e : (Instr.buildSlice 24 1 #[(0, .int .i64 x)]).run Tryd.prog w = .ok (.slice (some ⟨w.heap.size, 0, none⟩) 1 1) (w.alloc (.cells #[.int .i64 x] 3)) := by kernel_rfl
  rw [e]
  exact k _ _ ((Below.refl _ w).alloc (Nat.le_refl _) _) ⟨rfl, .inr ⟨w.heap.size, 1, #[.int .i64 x], rfl, Nat.le_refl _, heap_alloc_new w _, Nat.le_refl _, by decide, rfl, rfl⟩⟩
theorem appendI {B : Nat} {T : TypeId} {v xv : Value} {l m : List Int} (ho : OwnI w B v l) (hB : B ≤ w.heap.size) (hx : Ints w xv m) (hl : l.length + m.length < 1099511627776)
    (k : ∀ v' w', OwnI w' B v' (l ++ m) → Below B w w' → K v' w') : oM Tryd.prog (.call { callee := .builtin .append, args := #[.tmp 0, .tmp 1], argTypes := #[24, 24] }) T [v, xv] K w := by
  obtain ⟨⟨ad, c, rfl, h0, hc⟩, hr, _⟩ := hx
  refine append_at 24 T 3 ((Tryd.prog.info? 3).getD default) (.int .i64 0) 1 8 (by kernel_rfl) (by kernel_rfl) (by kernel_rfl) (by kernel_rfl) (by kernel_rfl) (by kernel_rfl) (by omega) (owns_base ho (Nat.zero_le _)) (m.map (Value.int .i64)) (by simp) h0 ?_ ?_ (by simp only [maxLen]; omega) (by omega) ?_
  · rintro a rfl j u hj
    rcases hc with rfl | ⟨b, o, hbo, hlt, hcell⟩
    · simp at hj
    · cases hbo
      rw [add_none]
      exact hcell j u (by rw [flat_int]; exact hj)
  · intro u hu
    obtain ⟨x, _, rfl⟩ := List.mem_map.1 hu
    rfl
  · intro v' w' ho' hg hv
    have hbl : ∀ i, v.ownBlock = some i → B ≤ i := fun i hi => (owns_own ho hi).2.1
    refine k v' w' ?_ ((Below.refl B w).grown hg hB hbl)
    have e2 : flat intC (l ++ m) = flat intC l ++ m.map (Value.int .i64) := by rw [flat_int, flat_int]; simp
    show w'.ownsRow B 3 1 v' (l ++ m).length (flat intC (l ++ m))
    rw [List.length_append, e2]
    exact owns_up ho' (fun i hi => (hv i hi).elim (hbl i) (fun h => Nat.le_trans hB h))
theorem Exps_ok {lv : Value} {l : List Int} (hl : Ints w lv l) (hll : l.length < 1000000) (k : ∀ v w', Below w.heap.size w w' → Ints w' v (expsM l) → K v w') : callM Tryd.prog 10 #[lv] K w := by
  apply sh_10_ok
  unfold sh_10
  refine mkI1 1 fun v W h1 ho => ?_
  refine appendI ho h1.size (hl.next h1) (by simp; omega) (fun v' w' ho' h2 => ?_)
  exact k _ _ (h1.trans h2) (ho'.ints (by
    intro n hn
    rcases List.mem_cons.1 hn with rfl | hn
    · exact ⟨by decide, by decide⟩
    · exact hl.rng n hn) (by simp; omega))
end
end Go.Proofs
set_option linter.unusedVariables false
set_option maxRecDepth 100000
namespace Go.Proofs
open Go.Sh
def sh_3 (a0 : Value) (a1 : Value) (a2 : Value) (a3 : Value) (K : Value → World → Prop) (w : World) : Prop :=
 oM Tryd.prog (.box 26 (.tmp 0)) 0 [a0] (fun v4_1 w =>
 oM Tryd.prog (.box 28 (.tmp 0)) 0 [a1] (fun v5_2 w =>
 oM Tryd.prog (.box 30 (.tmp 0)) 0 [a2] (fun v6_3 w =>
 oM Tryd.prog (.box 30 (.tmp 0)) 0 [a3] (fun v7_4 w =>
 callM Tryd.prog 5 #[] (fun v17_5 w =>
 oM Tryd.prog (.load 26 (.tmp 0)) 26 [v4_1] (fun v18_6 w =>
 oM Tryd.prog (.fieldAddr 30 (.tmp 0) 1) 0 [v6_3] (fun v19_7 w =>
 oM Tryd.prog (.load 24 (.tmp 0)) 24 [v19_7] (fun v20_8 w =>
 oM Tryd.prog (.fieldAddr 30 (.tmp 0) 1) 0 [v7_4] (fun v21_9 w =>
 oM Tryd.prog (.load 24 (.tmp 0)) 24 [v21_9] (fun v22_10 w =>
 oM Tryd.prog (.buildSlice 33 2 #[(0, (.tmp 0)), (1, (.tmp 1))]) 33 [v20_8, v22_10] (fun v23_11 w =>
 callM Tryd.prog 6 #[v18_6, v23_11] (fun v24_12 w =>
 oM Tryd.prog (.unOp .not 4 (.tmp 0)) 4 [v24_12] (fun v25_13 w =>
 condM v25_13
 (K v17_5 w)
 (oM Tryd.prog (.load 26 (.tmp 0)) 26 [v4_1] (fun v28_14 w =>
 oM Tryd.prog (.load 28 (.tmp 0)) 28 [v5_2] (fun v29_15 w =>
 oM Tryd.prog (.load 30 (.tmp 0)) 30 [v6_3] (fun v30_16 w =>
 oM Tryd.prog (.load 30 (.tmp 0)) 30 [v7_4] (fun v31_17 w =>
 callM Tryd.prog 7 #[v28_14, v29_15, v30_16, v31_17] (fun v32_18 w =>
 oM Tryd.prog (.extract (.tmp 0) 0) 24 [v32_18] (fun v33_19 w =>
 oM Tryd.prog (.extract (.tmp 0) 1) 4 [v32_18] (fun v34_20 w =>
 oM Tryd.prog (.unOp .not 4 (.tmp 0)) 4 [v34_20] (fun v36_21 w =>
 condM v36_21
 (gdM (gd v17_5 true) (pureM v33_19) (fun v39_22 w =>
 gdM (gd v17_5 true) (oM Tryd.prog (.call (Go.Call.mk (.builtin .len) #[(.tmp 0)] #[24])) 3 [v39_22]) (fun v40_23 w =>
 gdM (gd v17_5 true) (oM Tryd.prog (.binOp .eql 3 (.tmp 0) (.const (.int .i64 0)) 3) 4 [v40_23]) (fun v41_24 w =>
 oM Tryd.prog (.pick (.tmp 0) (.tmp 1) (.tmp 2)) 4 [v17_5, v41_24, (.bool false)] (fun v42_25 w =>
 K v42_25 w) w) w) w) w)
 (oM Tryd.prog (.fieldAddr 26 (.tmp 0) 0) 0 [v4_1] (fun v43_26 w =>
 oM Tryd.prog (.fieldAddr 23 (.tmp 0) 1) 0 [v43_26] (fun v44_27 w =>
 oM Tryd.prog (.load 3 (.tmp 0)) 3 [v44_27] (fun v45_28 w =>
 oM Tryd.prog (.load 26 (.tmp 0)) 26 [v4_1] (fun v46_29 w =>
 oM Tryd.prog (.load 28 (.tmp 0)) 28 [v5_2] (fun v47_30 w =>
 oM Tryd.prog (.load 30 (.tmp 0)) 30 [v6_3] (fun v48_31 w =>
 callM Tryd.prog 8 #[v46_29, v47_30, v48_31] (fun v49_32 w =>
 oM Tryd.prog (.unOp .not 4 (.tmp 0)) 4 [v49_32] (fun v50_33 w =>
 gdM (gd v50_33 false) (oM Tryd.prog (.load 26 (.tmp 0)) 26 [v4_1]) (fun v52_34 w =>
 gdM (gd v50_33 false) (oM Tryd.prog (.load 28 (.tmp 0)) 28 [v5_2]) (fun v53_35 w =>
 gdM (gd v50_33 false) (oM Tryd.prog (.load 30 (.tmp 0)) 30 [v7_4]) (fun v54_36 w =>
 gdM (gd v50_33 false) (callM Tryd.prog 8 #[v52_34, v53_35, v54_36]) (fun v55_37 w =>
 gdM (gd v50_33 false) (oM Tryd.prog (.unOp .not 4 (.tmp 0)) 4 [v55_37]) (fun v56_38 w =>
 oM Tryd.prog (.pick (.tmp 0) (.tmp 1) (.tmp 2)) 4 [v50_33, (.bool true), v56_38] (fun v57_39 w =>
 gdM (gd v57_39 false) (oM Tryd.prog (.fieldAddr 30 (.tmp 0) 0) 0 [v6_3]) (fun v59_40 w =>
 gdM (gd v57_39 false) (oM Tryd.prog (.load 3 (.tmp 0)) 3 [v59_40]) (fun v60_41 w =>
 gdM (gd v57_39 false) (oM Tryd.prog (.fieldAddr 30 (.tmp 0) 0) 0 [v7_4]) (fun v61_42 w =>
 gdM (gd v57_39 false) (oM Tryd.prog (.load 3 (.tmp 0)) 3 [v61_42]) (fun v62_43 w =>
 gdM (gd v57_39 false) (oM Tryd.prog (.binOp .eql 3 (.tmp 0) (.tmp 1) 3) 4 [v60_41, v62_43]) (fun v63_44 w =>
 oM Tryd.prog (.pick (.tmp 0) (.tmp 1) (.tmp 2)) 4 [v57_39, (.bool true), v63_44] (fun v64_45 w =>
 gdM (gd v64_45 false) (pureM v33_19) (fun v66_46 w =>
 gdM (gd v64_45 false) (oM Tryd.prog (.call (Go.Call.mk (.builtin .len) #[(.tmp 0)] #[24])) 3 [v66_46]) (fun v67_47 w =>
 gdM (gd v64_45 false) (oM Tryd.prog (.fieldAddr 26 (.tmp 0) 1) 0 [v4_1]) (fun v68_48 w =>
 gdM (gd v64_45 false) (oM Tryd.prog (.load 24 (.tmp 0)) 24 [v68_48]) (fun v69_49 w =>
 gdM (gd v64_45 false) (oM Tryd.prog (.call (Go.Call.mk (.builtin .len) #[(.tmp 0)] #[24])) 3 [v69_49]) (fun v70_50 w =>
 gdM (gd v64_45 false) (oM Tryd.prog (.binOp .sub 3 (.tmp 0) (.tmp 1) 3) 3 [v70_50, (.int .i64 1)]) (fun v71_51 w =>
 gdM (gd v64_45 false) (oM Tryd.prog (.binOp .neq 3 (.tmp 0) (.tmp 1) 3) 4 [v67_47, v71_51]) (fun v72_52 w =>
 oM Tryd.prog (.pick (.tmp 0) (.tmp 1) (.tmp 2)) 4 [v64_45, (.bool true), v72_52] (fun v73_53 w =>
 gdM (gd v73_53 false) (oM Tryd.prog (.fieldAddr 30 (.tmp 0) 1) 0 [v6_3]) (fun v75_54 w =>
 gdM (gd v73_53 false) (oM Tryd.prog (.load 24 (.tmp 0)) 24 [v75_54]) (fun v76_55 w =>
 gdM (gd v73_53 false) (oM Tryd.prog (.call (Go.Call.mk (.builtin .len) #[(.tmp 0)] #[24])) 3 [v76_55]) (fun v77_56 w =>
 gdM (gd v73_53 false) (oM Tryd.prog (.binOp .eql 3 (.tmp 0) (.const (.int .i64 0)) 3) 4 [v77_56]) (fun v78_57 w =>
 oM Tryd.prog (.pick (.tmp 0) (.tmp 1) (.tmp 2)) 4 [v73_53, (.bool true), v78_57] (fun v79_58 w =>
 gdM (gd v79_58 false) (oM Tryd.prog (.fieldAddr 30 (.tmp 0) 1) 0 [v7_4]) (fun v81_59 w =>
 gdM (gd v79_58 false) (oM Tryd.prog (.load 24 (.tmp 0)) 24 [v81_59]) (fun v82_60 w =>
 gdM (gd v79_58 false) (oM Tryd.prog (.call (Go.Call.mk (.builtin .len) #[(.tmp 0)] #[24])) 3 [v82_60]) (fun v83_61 w =>
 gdM (gd v79_58 false) (oM Tryd.prog (.binOp .eql 3 (.tmp 0) (.const (.int .i64 0)) 3) 4 [v83_61]) (fun v84_62 w =>
 oM Tryd.prog (.pick (.tmp 0) (.tmp 1) (.tmp 2)) 4 [v79_58, (.bool true), v84_62] (fun v85_63 w =>
 condM v85_63
 (K (.bool false) w)
 (heldM w (fun C_64 w => (((true : Bool) = true) ∧ (oH Tryd.prog (.fieldAddr 26 (.tmp 0) 0) 0 [v4_1] C_64 (fun v87_65 =>
 oH Tryd.prog (.load 23 (.tmp 0)) 23 [v87_65] C_64 (fun v88_66 =>
 oH Tryd.prog (.fieldAddr 26 (.tmp 0) 1) 0 [v4_1] C_64 (fun v89_67 =>
 oH Tryd.prog (.load 24 (.tmp 0)) 24 [v89_67] C_64 (fun v90_68 =>
 pureH v33_19 C_64 (fun v91_69 =>
 ∃ S_70 : World → World → Prop, ∃ R_71 : Value → World → Prop, (∀ v w w_1, S_70 w w_1 → R_71 v w → R_71 v w_1) ∧
 (∀ w, C_64 w → (callM Tryd.prog 10 #[v91_69] (fun v w_1 => C_64 w_1 ∧ S_70 w w_1 ∧ R_71 v w_1) w)) ∧
 (∃ R_72 : Value → World → Prop, (∀ v w w_1, S_70 w w_1 → R_72 v w → R_72 v w_1) ∧
 (∀ w, C_64 w → ∀ v92_73, R_71 v92_73 w → (callM Tryd.prog 9 #[v88_66, v90_68, v92_73] (fun v w_1 => C_64 w_1 ∧ S_70 w w_1 ∧ R_72 v w_1) w)) ∧
 (∃ R_74 : Value → World → Prop, (∀ v w w_1, S_70 w w_1 → R_74 v w → R_74 v w_1) ∧
 (∀ w, C_64 w → ∀ v93_75, R_72 v93_75 w → (C_64 w ∧ S_70 w w ∧ R_74 v93_75 w)) ∧
 (∃ R_76 : Value → World → Prop, (∀ v w w_1, S_70 w w_1 → R_76 v w → R_76 v w_1) ∧
 (∀ w, C_64 w → ∀ v86_77, R_74 v86_77 w → (oM Tryd.prog (.extract (.tmp 0) 0) 3 [v86_77] (fun v w_1 => C_64 w_1 ∧ S_70 w w_1 ∧ R_76 v w_1) w)) ∧
 (∃ R_78 : Value → World → Prop, (∀ v w w_1, S_70 w w_1 → R_78 v w → R_78 v w_1) ∧
 (∀ w, C_64 w → ∀ v86_79, R_74 v86_79 w → (oM Tryd.prog (.extract (.tmp 0) 1) 4 [v86_79] (fun v w_1 => C_64 w_1 ∧ S_70 w w_1 ∧ R_78 v w_1) w)) ∧
 (∃ R_80 : Value → World → Prop, (∀ v w w_1, S_70 w w_1 → R_80 v w → R_80 v w_1) ∧
 (∀ w, C_64 w → ∀ v94_81, R_76 v94_81 w → (C_64 w ∧ S_70 w w ∧ R_80 v94_81 w)) ∧
 (∀ w, C_64 w → ∀ v92_82, R_71 v92_82 w → ∀ v93_83, R_72 v93_83 w → ∀ v86_84, R_74 v86_84 w → ∀ v94_85, R_76 v94_85 w → ∀ v95_86, R_78 v95_86 w → ∀ v13_87, R_80 v13_87 w → (
 oM Tryd.prog (.fieldAddr 30 (.tmp 0) 0) 0 [v6_3] (fun v98_88 w =>
 oM Tryd.prog (.load 3 (.tmp 0)) 3 [v98_88] (fun v99_89 w =>
 oM Tryd.prog (.fieldAddr 30 (.tmp 0) 0) 0 [v7_4] (fun v100_90 w =>
 oM Tryd.prog (.load 3 (.tmp 0)) 3 [v100_90] (fun v101_91 w =>
 callM Tryd.prog 12 #[v45_28, v99_89, v101_91] (fun v102_92 w =>
 callM Tryd.prog 11 #[v45_28, v102_92, (.int .i64 (-1))] (fun v103_93 w =>
 heldM w (fun C_94 w => (((true : Bool) = true) ∧ (pureH v45_28 C_94 (fun v104_95 =>
 pureH v45_28 C_94 (fun v105_96 =>
 oH Tryd.prog (.fieldAddr 30 (.tmp 0) 1) 0 [v6_3] C_94 (fun v106_97 =>
 oH Tryd.prog (.load 24 (.tmp 0)) 24 [v106_97] C_94 (fun v107_98 =>
 oH Tryd.prog (.indexAddr 24 (.tmp 0) (.tmp 1)) 0 [v107_98, (.int .i64 0)] C_94 (fun v108_99 =>
 oH Tryd.prog (.load 3 (.tmp 0)) 3 [v108_99] C_94 (fun v109_100 =>
 oH Tryd.prog (.fieldAddr 30 (.tmp 0) 1) 0 [v7_4] C_94 (fun v110_101 =>
 oH Tryd.prog (.load 24 (.tmp 0)) 24 [v110_101] C_94 (fun v111_102 =>
 oH Tryd.prog (.indexAddr 24 (.tmp 0) (.tmp 1)) 0 [v111_102, (.int .i64 0)] C_94 (fun v112_103 =>
 oH Tryd.prog (.load 3 (.tmp 0)) 3 [v112_103] C_94 (fun v113_104 =>
 pureH v103_93 C_94 (fun v115_105 =>
 ∃ S_106 : World → World → Prop, ∃ R_107 : Value → World → Prop, (∀ v w w_1, S_106 w w_1 → R_107 v w → R_107 v w_1) ∧
 (∀ w, C_94 w → (callM Tryd.prog 12 #[v105_96, v109_100, v113_104] (fun v w_1 => C_94 w_1 ∧ S_106 w w_1 ∧ R_107 v w_1) w)) ∧
 (∀ w, C_94 w → ∀ v114_108, R_107 v114_108 w → (
 callM Tryd.prog 13 #[v104_95, v114_108, v115_105] (fun v116_109 w =>
 heldM w (fun C_110 w => (((true : Bool) = true) ∧ (pureH v17_5 C_110 (fun v117_111 =>
 pureH v117_111 C_110 (fun v118_112 =>
 gdH (gd v118_112 true) (pureH v95_86) C_110 (fun v119_113 =>
 oH Tryd.prog (.pick (.tmp 0) (.tmp 1) (.tmp 2)) 4 [v118_112, v119_113, (.bool false)] C_110 (fun v120_114 =>
 pureH v120_114 C_110 (fun v121_115 =>
 gdH (gd v121_115 true) (oH Tryd.prog (.fieldAddr 26 (.tmp 0) 0) 0 [v4_1]) C_110 (fun v122_116 =>
 gdH (gd v121_115 true) (oH Tryd.prog (.load 23 (.tmp 0)) 23 [v122_116]) C_110 (fun v123_117 =>
 gdH (gd v121_115 true) (pureH v13_87) C_110 (fun v124_118 =>
 gdH (gd v121_115 true) (pureH v116_109) C_110 (fun v125_119 =>
 gdH (gd v121_115 true) (oH Tryd.prog (.fieldAddr 28 (.tmp 0) 0) 0 [v5_2]) C_110 (fun v127_120 =>
 gdH (gd v121_115 true) (oH Tryd.prog (.load 3 (.tmp 0)) 3 [v127_120]) C_110 (fun v128_121 =>
 ∃ S_122 : World → World → Prop, ∃ R_123 : Value → World → Prop, (∀ v w w_1, S_122 w w_1 → R_123 v w → R_123 v w_1) ∧
 (∀ w, C_110 w → (gdM (gd v121_115 true) (callM Tryd.prog 14 #[v123_117, v124_118, v125_119]) (fun v w_1 => C_110 w_1 ∧ S_122 w w_1 ∧ R_123 v w_1) w)) ∧
 (∃ R_124 : Value → World → Prop, (∀ v w w_1, S_122 w w_1 → R_124 v w → R_124 v w_1) ∧
 (∀ w, C_110 w → ∀ v126_125, R_123 v126_125 w → (gdM (gd v121_115 true) (oM Tryd.prog (.binOp .eql 3 (.tmp 0) (.tmp 1) 3) 4 [v126_125, v128_121]) (fun v w_1 => C_110 w_1 ∧ S_122 w w_1 ∧ R_124 v w_1) w)) ∧
 (∃ R_126 : Value → World → Prop, (∀ v w w_1, S_122 w w_1 → R_126 v w → R_126 v w_1) ∧
 (∀ w, C_110 w → ∀ v129_127, R_124 v129_127 w → (oM Tryd.prog (.pick (.tmp 0) (.tmp 1) (.tmp 2)) 4 [v121_115, v129_127, (.bool false)] (fun v w_1 => C_110 w_1 ∧ S_122 w w_1 ∧ R_126 v w_1) w)) ∧
 (∃ R_128 : Value → World → Prop, (∀ v w w_1, S_122 w w_1 → R_128 v w → R_128 v w_1) ∧
 (∀ w, C_110 w → ∀ v130_129, R_126 v130_129 w → (C_110 w ∧ S_122 w w ∧ R_128 v130_129 w)) ∧
 (∃ R_130 : Value → World → Prop, (∀ v w w_1, S_122 w w_1 → R_130 v w → R_130 v w_1) ∧
 (∀ w, C_110 w → ∀ v131_131, R_128 v131_131 w → (gdM (gd v131_131 true) (oM Tryd.prog (.load 26 (.tmp 0)) 26 [v4_1]) (fun v w_1 => C_110 w_1 ∧ S_122 w w_1 ∧ R_130 v w_1) w)) ∧
 (∃ R_132 : Value → World → Prop, (∀ v w w_1, S_122 w w_1 → R_132 v w → R_132 v w_1) ∧
 (∀ w, C_110 w → ∀ v131_133, R_128 v131_133 w → (gdM (gd v131_133 true) (oM Tryd.prog (.load 28 (.tmp 0)) 28 [v5_2]) (fun v w_1 => C_110 w_1 ∧ S_122 w w_1 ∧ R_132 v w_1) w)) ∧
 (∃ R_134 : Value → World → Prop, (∀ v w w_1, S_122 w w_1 → R_134 v w → R_134 v w_1) ∧
 (∀ w, C_110 w → ∀ v131_135, R_128 v131_135 w → (gdM (gd v131_135 true) (oM Tryd.prog (.load 30 (.tmp 0)) 30 [v6_3]) (fun v w_1 => C_110 w_1 ∧ S_122 w w_1 ∧ R_134 v w_1) w)) ∧
 (∃ R_136 : Value → World → Prop, (∀ v w w_1, S_122 w w_1 → R_136 v w → R_136 v w_1) ∧
 (∀ w, C_110 w → ∀ v131_137, R_128 v131_137 w → (gdM (gd v131_137 true) (oM Tryd.prog (.load 30 (.tmp 0)) 30 [v7_4]) (fun v w_1 => C_110 w_1 ∧ S_122 w w_1 ∧ R_136 v w_1) w)) ∧
 (∃ R_138 : Value → World → Prop, (∀ v w w_1, S_122 w w_1 → R_138 v w → R_138 v w_1) ∧
 (∀ w, C_110 w → ∀ v131_139, R_128 v131_139 w → (gdM (gd v131_139 true) (pureM v33_19) (fun v w_1 => C_110 w_1 ∧ S_122 w w_1 ∧ R_138 v w_1) w)) ∧
 (∀ w, C_110 w → ∀ v126_140, R_123 v126_140 w → ∀ v129_141, R_124 v129_141 w → ∀ v130_142, R_126 v130_142 w → ∀ v131_143, R_128 v131_143 w → ∀ v132_144, R_130 v132_144 w → ∀ v133_145, R_132 v133_145 w → ∀ v134_146, R_134 v134_146 w → ∀ v135_147, R_136 v135_147 w → ∀ v136_148, R_138 v136_148 w → (
 gdM (gd v131_143 true) (callM Tryd.prog 15 #[v132_144, v133_145, v134_146, v135_147, v136_148]) (fun v137_149 w =>
 oM Tryd.prog (.pick (.tmp 0) (.tmp 1) (.tmp 2)) 4 [v131_143, v137_149, (.bool false)] (fun v138_150 w =>
 K v138_150 w) w) w))))))))))))))))))))))))) w))))))))))))))))) w) w) w) w) w) w))))))))))))))))) w) w) w) w) w) w) w) w) w) w) w) w) w) w) w) w) w) w) w) w) w) w) w) w) w) w) w) w) w) w) w) w) w) w) w) w) w) w)) w) w) w) w) w) w) w) w)) w) w) w) w) w) w) w) w) w) w) w) w) w
theorem sh_3_eq (a0 : Value) (a1 : Value) (a2 : Value) (a3 : Value) (K : Value → World → Prop) (w : World) : sh_3 a0 a1 a2 a3 K w = code Tryd.prog (fun i => bif Nat.beq i 10 then .free [0, 1, 2, 3, 4] [5, 6, 7, 8, 9, 10] [11] else bif Nat.beq i 12 then .free [0, 1, 2, 3, 4, 5, 6, 7, 8, 9, 11] [10] [12, 13] else bif Nat.beq i 13 then .free [0, 1, 2, 3, 4, 5, 6, 7, 8, 10, 11] [9, 12, 13, 14, 15, 16, 17, 18, 19] [20, 21, 22] else 0) 139 (Tryd.f3.body.getD .skip) (slotsAt [a0, a1, a2, a3]) (retK Tryd.prog [.tmp 8] K) w := by kernel_rfl
theorem sh_3_ok {a0 a1 a2 a3 : Value} {K : Value → World → Prop} {w : World} (h : sh_3 a0 a1 a2 a3 K w) : callM Tryd.prog 3 #[a0, a1, a2, a3] K w :=
  calls_of_code (fun i => bif Nat.beq i 10 then .free [0, 1, 2, 3, 4] [5, 6, 7, 8, 9, 10] [11] else bif Nat.beq i 12 then .free [0, 1, 2, 3, 4, 5, 6, 7, 8, 9, 11] [10] [12, 13] else bif Nat.beq i 13 then .free [0, 1, 2, 3, 4, 5, 6, 7, 8, 10, 11] [9, 12, 13, 14, 15, 16, 17, 18, 19] [20, 21, 22] else 0) (fn := Tryd.f3) (rs := [.tmp 8]) Tryd.func3 rfl rfl (by kernel_rfl) (Nat.le_of_ble_eq_true rfl) ((sh_3_eq a0 a1 a2 a3 K w).mp h)
end Go.Proofs
namespace Go.Sh
open Go Go.RowKit
@[reducible] def ptr (g i : Nat) : Value := .pointer (some ⟨g, i, none⟩)
def Holds (w : World) (g : Nat) (T : TypeId) (vs : List Value) : Prop := w.heap[g]? = some (.cells vs.toArray T (0, 0))
theorem Holds.lt {w : World} {g : Nat} {T : TypeId} {vs : List Value} (h : Holds w g T vs) : g < w.heap.size := (Array.getElem?_eq_some_iff.1 h).1
theorem Holds.next {w w' : World} {g : Nat} {T : TypeId} {vs : List Value} (h : Holds w g T vs) (hb : Below w.heap.size w w') : Holds w' g T vs := by
  unfold Holds
  rw [hb.block g h.lt]; exact h
theorem Holds.cell {w : World} {g : Nat} {T : TypeId} {vs : List Value} (h : Holds w g T vs) (i : Nat) (hi : i < vs.length) : w.cell? ⟨g, i, none⟩ = some vs[i] := by
  unfold World.cell?
  rw [h]
  simp [hi]
section
variable {P : Program} {w : World} {K : Value → World → Prop} {T T' T0 : TypeId} {g n : Nat}
end
end Go.Sh
namespace Go.Sh
open Go Go.RowKit
abbrev Nx (w w' : World) : Prop := Below w.heap.size w w'
variable {S : World → World → Prop} {A N : (Value → World → Prop) → Prop}
theorem monoE {x : Value} (h : A (fun v _ => v = x)) (n : N (fun v _ => v = x)) : ∃ R : Value → World → Prop, (∀ v w w1, S w w1 → R v w → R v w1) ∧ A R ∧ N R := ⟨_, fun _ _ _ _ h => h, h, n⟩
theorem monoR (R : Value → World → Prop) (hs : ∀ v w w1, S w w1 → R v w → R v w1) (h : A R) (n : N R) : ∃ R : Value → World → Prop, (∀ v w w1, S w w1 → R v w → R v w1) ∧ A R ∧ N R := ⟨R, hs, h, n⟩
end Go.Sh
namespace FdPoly
def ev : List Int → Int → Int
  | [], _ => 0
  | c :: p, x => c + x * ev p x
def U (q a : Int) : Prop := ∃ u, q ∣ u * a - 1
theorem U.cancel {q a b : Int} (h : U q a) (hd : q ∣ a * b) : q ∣ b := by
  obtain ⟨u, k, hk⟩ := h
  obtain ⟨m, hm⟩ := hd
  exact ⟨u * m - k * b, by grind⟩
def Z (q : Int) (p : List Int) : Prop := ∀ c ∈ p, q ∣ c
theorem Z.ev {q : Int} : ∀ {p : List Int}, Z q p → ∀ x, q ∣ FdPoly.ev p x
  | [], _, _ => Int.dvd_zero q
  | c :: p, h, x => by
    have h1 := h c (by simp)
    have h2 := Z.ev (p := p) (fun d hd => h d (by simp [hd])) x
    exact Int.dvd_add h1 (Int.dvd_mul_of_dvd_right h2)
def Apart (q : Int) : List Int → Prop
  | [] => True
  | a :: xs => (∀ x ∈ xs, U q (x - a)) ∧ Apart q xs
def addL : List Int → List Int → List Int
  | [], p => p
  | p, [] => p
  | c :: p, d :: r => (c + d) :: addL p r
def scl (k : Int) (p : List Int) : List Int := p.map (fun c => k * c)
theorem addL_ev (x : Int) : ∀ p r : List Int, ev (addL p r) x = ev p x + ev r x
  | [], r => by simp [addL, ev]
  | c :: p, [] => by simp [addL, ev]
  | c :: p, d :: r => by
    simp only [addL, ev, addL_ev x p r]
    grind
theorem addL_len : ∀ p r : List Int, (addL p r).length = max p.length r.length
  | [], r => by simp [addL]
  | c :: p, [] => by simp [addL]
  | c :: p, d :: r => by simp only [addL, List.length_cons, addL_len p r]; omega
theorem addL_get : ∀ (p r : List Int) (i : Nat), (addL p r).getD i 0 = p.getD i 0 + r.getD i 0
  | [], r, i => by simp [addL]
  | c :: p, [], i => by simp [addL]
  | c :: p, d :: r, 0 => by simp [addL]
  | c :: p, d :: r, i + 1 => by
    have := addL_get p r i
    simpa [addL] using this
theorem scl_ev (k x : Int) (p : List Int) : ev (scl k p) x = k * ev p x := by
  induction p with
  | nil => simp [scl, ev]
  | cons c p ih =>
    have e : scl k (c :: p) = (k * c) :: scl k p := rfl
    rw [e]
    simp only [ev, ih]
    grind
theorem scl_len (k : Int) (p : List Int) : (scl k p).length = p.length := by simp [scl]
theorem scl_get (k : Int) (p : List Int) (i : Nat) : (scl k p).getD i 0 = k * p.getD i 0 := by
  induction p generalizing i with
  | nil => simp [scl]
  | cons c p ih =>
    cases i with
    | zero => simp [scl]
    | succ i => simpa [scl] using ih i
def lin (a : Int) (p : List Int) : List Int := addL (0 :: p) (scl (-a) p)
theorem lin_ev (a x : Int) (p : List Int) : ev (lin a p) x = (x - a) * ev p x := by
  unfold lin
  rw [addL_ev, scl_ev]
  simp only [ev]
  grind
theorem lin_len (a : Int) (p : List Int) : (lin a p).length = p.length + 1 := by
  unfold lin
  rw [addL_len, scl_len, List.length_cons]; omega
theorem lin_top (a : Int) (p : List Int) : (lin a p).getD p.length 0 = p.getD (p.length - 1) 0 := by
  unfold lin
  rw [addL_get, scl_get]
  have h1 : p.getD p.length 0 = 0 := by simp [List.getD]
  rw [h1]
  cases p with
  | nil => simp
  | cons c p => simp
structure Ip (q : Int) (X Y : Nat → Int) (i n : Nat) (p : List Int) (t : Int) : Prop where
  len : p.length = n + 1
  val : ∀ j, i ≤ j → j ≤ i + n → q ∣ ev p (X j) - Y j
  top : q ∣ p.getD n 0 - t
theorem Ip.step {q : Int} {X Y : Nat → Int} {i n : Nat} {p r : List Int} {t s u : Int} (h : Ip q X Y i n p t) (h' : Ip q X Y (i + 1) n r s) (hu : q ∣ u * (X (i + n + 1) - X i) - 1) :
    Ip q X Y i (n + 1) (scl u (addL (lin (X i) r) (scl (-1) (lin (X (i + n + 1)) p)))) ((s - t) * u) := by
  refine ⟨?_, fun j h1 h2 => ?_, ?_⟩
  · rw [scl_len, addL_len, scl_len, lin_len, lin_len, h.len, h'.len]; omega
  · rw [scl_ev, addL_ev, scl_ev, lin_ev, lin_ev]
    obtain ⟨k, hk⟩ := hu
    by_cases hj : j = i
    · subst hj
      obtain ⟨a, ha⟩ := h.val j (Nat.le_refl _) (by omega)
      generalize ev p (X j) = P at *
      generalize ev r (X j) = R at *
      generalize X (j + n + 1) = xn at *
      generalize X j = xj at *
      generalize Y j = y at *
      exact ⟨u * (xn - xj) * a + k * y, by grind⟩
    · by_cases hj2 : j = i + n + 1
      · subst hj2
        obtain ⟨a, ha⟩ := h'.val (i + n + 1) (by omega) (by omega)
        generalize ev p (X (i + n + 1)) = P at *
        generalize ev r (X (i + n + 1)) = R at *
        generalize X (i + n + 1) = xn at *
        generalize X i = xj at *
        generalize Y (i + n + 1) = y at *
        exact ⟨u * (xn - xj) * a + k * y, by grind⟩
      · obtain ⟨a, ha⟩ := h.val j (by omega) (by omega)
        obtain ⟨b, hb⟩ := h'.val j (by omega) (by omega)
        generalize ev p (X j) = P at *
        generalize ev r (X j) = R at *
        generalize X (i + n + 1) = xn at *
        generalize X i = xi at *
        generalize X j = xj at *
        generalize Y j = y at *
        exact ⟨u * (xj - xi) * b - u * (xj - xn) * a + k * y, by grind⟩
  · rw [scl_get, addL_get, scl_get]
    have e1 : (lin (X i) r).getD (n + 1) 0 = r.getD n 0 := by have := lin_top (X i) r; rw [h'.len] at this; exact this
    have e2 : (lin (X (i + n + 1)) p).getD (n + 1) 0 = p.getD n 0 := by have := lin_top (X (i + n + 1)) p; rw [h.len] at this; exact this
    rw [e1, e2]
    obtain ⟨a, ha⟩ := h.top
    obtain ⟨b, hb⟩ := h'.top
    exact ⟨u * b - u * a, by grind⟩
theorem Ip.one (q : Int) (X Y : Nat → Int) (i : Nat) : Ip q X Y i 0 [Y i] (Y i) :=
  ⟨rfl, fun j h1 h2 => by
    have : j = i := by omega
    subst this
    simp [ev], by simp⟩
def pr (X : Nat → Int) : Nat → List Int
  | 0 => [1]
  | n + 1 => lin (X n) (pr X n)
end FdPoly
namespace FdPoly
open FdSpec
theorem subM_dvd {n a b : Int} (hn : okN n) : n ∣ subM n a b - (a - b) := by
  unfold subM; rw [if_pos hn]
  have := Int.emod_add_mul_ediv (a - b) n
  exact ⟨-((a - b) / n), by grind⟩
theorem mulM_dvd {n a b : Int} (hn : okN n) : n ∣ mulM n a b - a * b := by
  unfold mulM; rw [if_pos hn]
  have := Int.emod_add_mul_ediv (a * b) n
  exact ⟨-(a * b / n), by grind⟩
theorem mod_dvd (n a : Int) : n ∣ a % n - a := by
  have := Int.emod_add_mul_ediv a n
  exact ⟨-(a / n), by grind⟩
theorem euc_inv {n a : Int} (hn : okN n) : ∀ (m : Nat) (r s x y α β : Int), s.toNat ≤ m → 0 ≤ r → 0 ≤ s → α * r + β * s = 1 → n ∣ x * a - r → n ∣ y * a - s → (eucAll n r s x y).1 = 1 ∧ n ∣ (eucAll n r s x y).2 * a - 1
  | m, r, s, x, y, α, β, hm, hr, hs, hb, hx, hy => by
    by_cases h0 : s = 0
    · subst h0
      have e : eucAll n r 0 x y = (r, x) := euc_zero n _ r x y
      rw [e]
      have h1 : α * r = 1 := by omega
      have h2 : r = 1 := by
        have : r ∣ 1 := ⟨α, by rw [Int.mul_comm]; exact h1.symm⟩
        have := Int.le_of_dvd (by omega) this
        by_cases h3 : r = 0
        · rw [h3] at h1; omega
        · omega
      subst h2
      exact ⟨rfl, hx⟩
    · have hs' : 0 < s := by omega
      rw [euc_step n r s x y hs']
      have h1 := Int.emod_nonneg r h0
      have h2 := Int.emod_lt_of_pos r hs'
      have h3 := Int.emod_add_mul_ediv r s
      have h4 : n ∣ subM n x (mulM n (r / s) y) * a - r % s := by
        obtain ⟨k1, e1⟩ := subM_dvd (a := x) (b := mulM n (r / s) y) hn
        obtain ⟨k2, e2⟩ := mulM_dvd (a := r / s) (b := y) hn
        obtain ⟨k3, e3⟩ := hx
        obtain ⟨k4, e4⟩ := hy
        generalize subM n x (mulM n (r / s) y) = A at *
        generalize mulM n (r / s) y = B at *
        generalize r / s = d at *
        generalize r % s = e at *
        exact ⟨k1 * a - k2 * a + k3 - d * k4, by grind⟩
      cases m with
      | zero => omega
      | succ m => exact euc_inv hn m s (r % s) y _ (β + α * (r / s)) α (by omega) hs h1 (by generalize r / s = d at *; generalize r % s = e at *; grind) hy h4
theorem invM_some {n a : Int} (hn : okN n) (h : U n a) : ∃ x, invM n a = some x ∧ n ∣ x * a - 1 ∧ 0 ≤ x ∧ x < n := by
  obtain ⟨u, k, hk⟩ := h
  have hp : 0 < n := by have := hn.1; omega
  have h1 := Int.emod_nonneg a (b := n) (by omega)
  have h3 := Int.emod_add_mul_ediv a n
  obtain ⟨e1, e2⟩ := euc_inv (a := a) hn _ n (a % n) 0 1 (u * (a / n) - k) u (Nat.le_refl _) (by omega) h1 (by generalize a / n = d at *; generalize a % n = e at *; grind) ⟨-1, by omega⟩ (by
    obtain ⟨m, hm⟩ := mod_dvd n a
    exact ⟨-m, by grind⟩)
  refine ⟨(eucAll n n (a % n) 0 1).2 % n, ?_, ?_, Int.emod_nonneg _ (by omega), Int.emod_lt_of_pos _ hp⟩
  · unfold invM
    rw [if_pos hn, if_pos e1]
  · obtain ⟨m, hm⟩ := mod_dvd n (eucAll n n (a % n) 0 1).2
    obtain ⟨l, hl⟩ := e2
    generalize (eucAll n n (a % n) 0 1).2 = z at *
    generalize z % n = zz at *
    exact ⟨m * a + l, by grind⟩
end FdPoly
namespace FdPoly
open FdSpec
theorem res_eq {q a b : Int} (h : q ∣ a - b) (ha : 0 ≤ a ∧ a < q) (hb : 0 ≤ b ∧ b < q) : a = b := by
  obtain ⟨k, hk⟩ := h
  have h1 : k < 1 := by
    refine Classical.byContradiction fun hn => ?_
    have : q * 1 ≤ q * k := Int.mul_le_mul_of_nonneg_left (by omega) (by omega)
    omega
  have h2 : -1 < k := by
    refine Classical.byContradiction fun hn => ?_
    have : q * k ≤ q * (-1) := Int.mul_le_mul_of_nonneg_left (by omega) (by omega)
    omega
  have : k = 0 := by omega
  subst this
  omega
theorem Ip.cong {q : Int} {X Y : Nat → Int} {i n : Nat} {p : List Int} {t s : Int} (h : Ip q X Y i n p t) (e : q ∣ t - s) : Ip q X Y i n p s := by
  refine ⟨h.len, h.val, ?_⟩
  have := Int.dvd_add h.top e
  have e2 : p.getD n 0 - t + (t - s) = p.getD n 0 - s := by omega
  rwa [e2] at this
theorem U.cong {q a b : Int} (h : U q a) (e : q ∣ b - a) : U q b := by
  obtain ⟨u, k, hk⟩ := h
  obtain ⟨m, hm⟩ := e
  exact ⟨u, k + u * m, by grind⟩
section
variable {q : Int} {xs ys : List Int}
def d0 (q : Int) (ys : List Int) : List Int := ys.map (fun y => y % q)
end
def hNew (q x d : Int) (o : List Int) (n : Nat) : Int := if n = 0 then addM q (subM q 0 (mulM q (o.getD 0 0) x)) d else addM q (subM q 0 (mulM q (o.getD n 0) x)) (o.getD (n - 1) 0)
def hStep (q x d : Int) (o : List Int) : List Int := (List.range o.length).map (hNew q x d o)
theorem hStep_get (q x d : Int) (o : List Int) (n : Nat) : (hStep q x d o).getD n 0 = if n < o.length then hNew q x d o n else 0 := by
  unfold hStep
  rw [List.getD_eq_getElem?_getD, List.getElem?_map]
  by_cases h : n < o.length
  · rw [List.getElem?_range h, if_pos h]; rfl
  · rw [if_neg h, List.getElem?_eq_none (by simp; omega)]; rfl
def Zr (c : Nat) (o : List Int) : Prop := ∀ n, c ≤ n → o.getD n 0 = 0
theorem mul0 {q x : Int} (hq : okN q) : mulM q 0 x = 0 := by unfold mulM; rw [if_pos hq]; simp
theorem sub0 {q : Int} (hq : okN q) : subM q 0 0 = 0 := by unfold subM; rw [if_pos hq]; simp
theorem add0 {q : Int} (hq : okN q) : addM q 0 0 = 0 := by unfold addM; rw [if_pos hq]; simp
theorem Zr.step {q x d : Int} (hq : okN q) {c : Nat} {o : List Int} (h : Zr c o) : Zr (c + 1) (hStep q x d o) := by
  intro n hn
  rw [hStep_get]
  split
  · unfold hNew
    rw [if_neg (by omega), h n (by omega), h (n - 1) (by omega), mul0 hq, sub0 hq, add0 hq]
  · rfl
end FdPoly
namespace FdPoly
open FdSpec
theorem U.mul {q a b : Int} (ha : U q a) (hb : U q b) : U q (a * b) := by
  obtain ⟨u, k, hk⟩ := ha
  obtain ⟨v, m, hm⟩ := hb
  exact ⟨u * v, v * b * k + m, by grind⟩
theorem U.neg {q a : Int} (ha : U q a) : U q (-a) := by
  obtain ⟨u, k, hk⟩ := ha
  exact ⟨-u, k, by grind⟩
theorem U.one (q : Int) : U q 1 := ⟨1, 0, by omega⟩
theorem prime_small {q : Int} (h : primeM q = true) : q ∈ smallP ∨ ∀ p ∈ smallP, q % p ≠ 0 := by
  unfold primeM at h
  split at h
  · cases h
  · cases hf : smallP.find? (fun p => decide (q % p = 0)) with
    | some p =>
      rw [hf] at h
      have hm := List.mem_of_find?_eq_some hf
      have : q = p := by simpa using h
      rw [this]; exact .inl hm
    | none =>
      rw [List.find?_eq_none] at hf
      exact .inr (fun p hp => by simpa using hf p hp)
theorem U.list {q : Int} (l : List Int) (h : ∀ x ∈ l, U q x) {d : Int} (hd : d = l.foldr (· * ·) 1) : U q d := by
  subst hd
  induction l with
  | nil => exact U.one q
  | cons x l ih => exact (h x (by simp)).mul (ih (fun y hy => h y (by simp [hy])))
end FdPoly
namespace GrLaw
open FdSpec FdPoly TkSpec
def Cg (P a b : Int) : Prop := P ∣ a - b
section
variable {P a b c d x y : Int}
theorem Cg.refl (P a : Int) : Cg P a a := ⟨0, by omega⟩
theorem Cg.symm (h : Cg P a b) : Cg P b a := by obtain ⟨k, hk⟩ := h; exact ⟨-k, by grind⟩
theorem Cg.trans (h : Cg P a b) (h2 : Cg P b c) : Cg P a c := by obtain ⟨k, hk⟩ := h; obtain ⟨m, hm⟩ := h2; exact ⟨k + m, by grind⟩
theorem Cg.mul (h : Cg P a b) (h2 : Cg P c d) : Cg P (a * c) (b * d) := by obtain ⟨k, hk⟩ := h; obtain ⟨m, hm⟩ := h2; exact ⟨k * c + b * m, by grind⟩
theorem Cg.pow (h : Cg P a b) : ∀ n : Nat, Cg P (a ^ n) (b ^ n)
  | 0 => by rw [Int.pow_zero, Int.pow_zero]; exact Cg.refl _ _
  | n + 1 => by rw [Int.pow_succ, Int.pow_succ]; exact (Cg.pow h n).mul h
theorem Cg.mod (P a : Int) : Cg P (a % P) a := mod_dvd P a
theorem Cg.emod (h : Cg P a b) : a % P = b % P := by
  obtain ⟨k, hk⟩ := h
  have : a = b + P * k := by omega
  rw [this, Int.add_mul_emod_self_left]
theorem Cg.of_emod (h : a % P = b % P) : Cg P a b := (Cg.mod P a).symm.trans (by rw [h]; exact Cg.mod P b)
theorem Cg.eq (h : Cg P a b) (ha : 0 ≤ a ∧ a < P) (hb : 0 ≤ b ∧ b < P) : a = b := res_eq h ha hb
theorem U.of_cg (h : Cg P (b * a) 1) : U P a := ⟨b, h⟩
theorem Cg.cancel (hu : U P c) (h : Cg P (a * c) (b * c)) : Cg P a b := by
  refine hu.cancel ?_
  obtain ⟨k, hk⟩ := h
  exact ⟨k, by grind⟩
theorem pow_mod {n : Nat} (h : Cg P (x ^ n) 1) (k : Nat) : Cg P (x ^ k) (x ^ (k % n)) := by
  have e : x ^ k = (x ^ n) ^ (k / n) * x ^ (k % n) := by
    rw [← Int.pow_mul, ← Int.pow_add, Nat.div_add_mod]
  rw [e]
  have h1 := h.pow (k / n)
  rw [Int.one_pow] at h1
  have := h1.mul (Cg.refl P (x ^ (k % n)))
  rwa [Int.one_mul] at this
theorem pow_same {n : Nat} (h : Cg P (x ^ n) 1) {j k : Nat} (e : j % n = k % n) : Cg P (x ^ j) (x ^ k) := by
  have h1 := pow_mod h j
  rw [e] at h1
  exact h1.trans (pow_mod h k).symm
end
structure Gv (g : Grp) : Prop where
  q0 : 5 ≤ g.Q
  q1 : g.Q < 1152921504606846976
  p : g.P = 2 * g.Q + 1
  g0 : 2 ≤ g.G
  g1 : g.G < g.P
  pq : primeM g.Q = true
  gq : pw g.P g.G g.Q.toNat = 1
theorem gv_of {g : Grp} (h : validG g = true) : Gv g := by
  unfold validG at h
  split at h
  · cases h
  · simp only [Bool.and_eq_true, decide_eq_true_eq] at h
    exact ⟨by omega, by omega, by omega, by omega, by omega, h.1.1, h.2⟩
def Ex (g : Grp) (x k : Int) : Int := x ^ (k % g.Q).toNat
def El (g : Grp) (x : Int) : Prop := Cg g.P (x ^ g.Q.toNat) 1
section
variable {g : Grp} {x y a b : Int}
theorem Gv.okP (h : Gv g) : okN g.P := by have := h.q0; have := h.q1; have := h.p; exact ⟨by omega, by omega⟩
theorem Gv.okQ (h : Gv g) : okN g.Q := by have := h.q0; have := h.q1; exact ⟨by omega, by omega⟩
theorem El.of_pw (h : Gv g) (hx : pw g.P x g.Q.toNat = 1) : El g x := by
  refine Cg.of_emod ?_
  have e : x ^ g.Q.toNat % g.P = 1 := hx
  rw [e, Int.emod_eq_of_lt (by omega) (by have := h.q0; have := h.p; omega)]
theorem El.of_elem (h : Gv g) (hx : elemG g x = true) : El g x ∧ 1 ≤ x ∧ x < g.P := by
  unfold elemG at hx
  simp only [Bool.and_eq_true, decide_eq_true_eq] at hx
  exact ⟨El.of_pw h hx.2, hx.1.1.1, hx.1.1.2⟩
theorem El.gen (h : Gv g) : El g g.G := El.of_pw h h.gq
theorem El.mul (hx : El g x) (hy : El g y) : El g (x * y) := by
  unfold El
  rw [Int.mul_pow]
  have := Cg.mul hx hy
  rwa [Int.one_mul] at this
theorem El.pow (hx : El g x) (n : Nat) : El g (x ^ n) := by
  unfold El
  rw [← Int.pow_mul, Nat.mul_comm, Int.pow_mul]
  have := Cg.pow hx n
  rwa [Int.one_pow] at this
theorem El.unit (h : Gv g) (hx : El g x) : U g.P x := by
  refine U.of_cg (b := x ^ (g.Q.toNat - 1)) ?_
  have e : x ^ (g.Q.toNat - 1) * x = x ^ g.Q.toNat := by
    rw [← Int.pow_succ]; congr 1; have := h.q0; omega
  rw [e]; exact hx
theorem toNat_mod {Q k : Int} (hQ : 0 < Q) : (((k % Q).toNat : Nat) : Int) = k % Q := Int.toNat_of_nonneg (Int.emod_nonneg _ (by omega))
theorem nat_mod {Q : Int} (hQ : 0 < Q) {m n : Nat} (h : (m : Int) % Q = (n : Int) % Q) : m % Q.toNat = n % Q.toNat := by
  have hq : ((Q.toNat : Nat) : Int) = Q := Int.toNat_of_nonneg (by omega)
  have : ((m % Q.toNat : Nat) : Int) = ((n % Q.toNat : Nat) : Int) := by
    rw [Int.natCast_emod, Int.natCast_emod, hq]; exact h
  omega
theorem Ex_add (h : Gv g) (hx : El g x) (a b : Int) : Cg g.P (Ex g x (a + b)) (Ex g x a * Ex g x b) := by
  unfold Ex
  rw [← Int.pow_add]
  have hQ : 0 < g.Q := by have := h.q0; omega
  refine pow_same hx (nat_mod hQ ?_)
  push_cast
  rw [toNat_mod hQ, toNat_mod hQ, toNat_mod hQ]
  rw [Int.emod_emod_of_dvd _ (Int.dvd_refl _), ← Int.add_emod]
theorem Ex_mul (h : Gv g) (hx : El g x) (a b : Int) : Cg g.P (Ex g x (a * b)) (Ex g x a ^ (b % g.Q).toNat) := by
  unfold Ex
  rw [← Int.pow_mul]
  have hQ : 0 < g.Q := by have := h.q0; omega
  refine pow_same hx (nat_mod hQ ?_)
  push_cast
  rw [toNat_mod hQ, toNat_mod hQ, toNat_mod hQ]
  rw [Int.emod_emod_of_dvd _ (Int.dvd_refl _), ← Int.mul_emod]
theorem Ex_cong (e : a % g.Q = b % g.Q) : Ex g x a = Ex g x b := by unfold Ex; rw [e]
theorem Ex_zero (x : Int) : Ex g x 0 = 1 := by simp [Ex]
theorem Ex_cg (h : Cg g.P x y) (a : Int) : Cg g.P (Ex g x a) (Ex g y a) := h.pow _
theorem El.ex (hx : El g x) (a : Int) : El g (Ex g x a) := hx.pow _
theorem powerG_eq (h : Gv g) (x k : Int) : powerG g x k = Ex g x k % g.P := by
  unfold powerG
  rw [if_pos ⟨h.okP, h.okQ⟩]; rfl
theorem powerG_cg (h : Gv g) (x k : Int) : Cg g.P (powerG g x k) (Ex g x k) := by rw [powerG_eq h]; exact Cg.mod _ _
theorem powerG_range (h : Gv g) (x k : Int) : 0 ≤ powerG g x k ∧ powerG g x k < g.P := by
  rw [powerG_eq h]
  have := h.okP.1
  exact ⟨Int.emod_nonneg _ (by omega), Int.emod_lt_of_pos _ (by omega)⟩
theorem timesG_cg (h : Gv g) (a b : Int) : Cg g.P (timesG g a b) (a * b) := by
  unfold timesG
  rw [if_pos h.okQ]
  exact mulM_dvd h.okP
def PX (g : Grp) : List (Int × Int) → Int
  | [] => 1
  | (b, e) :: l => Ex g b e * PX g l
theorem prodL_cg (h : Gv g) : ∀ (l : List (Int × Int)) (out : Int), Cg g.P (prodL g out l) (out * PX g l)
  | [], out => by simp [prodL, PX]; exact Cg.refl _ _
  | (b, e) :: l, out => by
    rw [prodL, PX]
    refine (prodL_cg h l _).trans ?_
    have h1 : Cg g.P (mulM g.P out (powerG g b e)) (out * Ex g b e) := (show Cg g.P _ _ from mulM_dvd h.okP).trans ((Cg.refl _ out).mul (powerG_cg h b e))
    have := h1.mul (Cg.refl g.P (PX g l))
    have e2 : out * Ex g b e * PX g l = out * (Ex g b e * PX g l) := Int.mul_assoc _ _ _
    rwa [e2] at this
theorem prodL_range (h : Gv g) : ∀ (l : List (Int × Int)) (out : Int), 0 ≤ out ∧ out < g.P → 0 ≤ prodL g out l ∧ prodL g out l < g.P
  | [], out, ho => ho
  | (b, e) :: l, out, _ => by rw [prodL]; exact prodL_range h l _ (mulM_range _ _ _ h.okP)
end
end GrLaw
set_option maxRecDepth 100000
set_option linter.unusedVariables false
set_option linter.unusedSimpArgs false
namespace Mr
def Pr (p : Nat) : Prop := 2 ≤ p ∧ ∀ d, d ∣ p → d = 1 ∨ d = p
def E (m : Nat) (a b : Int) : Prop := (m : Int) ∣ a - b
section
variable {m : Nat} {a b c d : Int}
theorem E.refl (m : Nat) (a : Int) : E m a a := ⟨0, by omega⟩
theorem E.symm (h : E m a b) : E m b a := by obtain ⟨k, hk⟩ := h; exact ⟨-k, by grind⟩
theorem E.trans (h : E m a b) (h2 : E m b c) : E m a c := by obtain ⟨k, hk⟩ := h; obtain ⟨l, hl⟩ := h2; exact ⟨k + l, by grind⟩
theorem E.mul (h : E m a b) (h2 : E m c d) : E m (a * c) (b * d) := by obtain ⟨k, hk⟩ := h; obtain ⟨l, hl⟩ := h2; exact ⟨k * c + b * l, by grind⟩
theorem E.add (h : E m a b) (h2 : E m c d) : E m (a + c) (b + d) := by obtain ⟨k, hk⟩ := h; obtain ⟨l, hl⟩ := h2; exact ⟨k + l, by grind⟩
theorem E.neg (h : E m a b) : E m (-a) (-b) := by obtain ⟨k, hk⟩ := h; exact ⟨-k, by grind⟩
theorem E.pow (h : E m a b) : ∀ n : Nat, E m (a ^ n) (b ^ n)
  | 0 => by rw [Int.pow_zero, Int.pow_zero]; exact E.refl _ _
  | n + 1 => by rw [Int.pow_succ, Int.pow_succ]; exact (h.pow n).mul h
theorem E.emod (m : Nat) (a : Int) : E m (a % m) a := ⟨-(a / m), by have := Int.emod_add_mul_ediv a m; grind⟩
theorem E.nmod (m a : Nat) : E m ((a % m : Nat) : Int) a := by
  have := E.emod m (a : Int)
  rwa [← Int.natCast_emod] at this
theorem E.of_eq (h : a = b) : E m a b := h ▸ E.refl _ _
theorem E.mod_eq {x y : Nat} (h : E m x y) : x % m = y % m := by
  have h1 : (m : Int) ∣ (x : Int) - y := h
  have := Int.emod_emod_of_dvd (x : Int) (Int.dvd_refl (m : Int))
  have h2 : (x : Int) % m = (y : Int) % m := Int.emod_eq_emod_iff_emod_sub_eq_zero.mpr (Int.emod_eq_zero_of_dvd h1)
  exact_mod_cast h2
theorem E.dvd {k : Nat} (h : E m a b) (hk : k ∣ m) : E k a b := Int.dvd_trans (Int.ofNat_dvd.mpr hk) h
theorem E.one_pow (h : E m a 1) (n : Nat) : E m (a ^ n) 1 := by have := h.pow n; rwa [Int.one_pow] at this
end
theorem neg_one_pow (n : Nat) : (-1 : Int) ^ n = if n % 2 = 0 then 1 else -1 := by
  induction n with
  | zero => rfl
  | succ n ih => rw [Int.pow_succ, ih]; split <;> split <;> omega
section
variable {p : Nat}
theorem exists_pr : ∀ n : Nat, 2 ≤ n → ∃ p, Pr p ∧ p ∣ n := by
  intro n
  induction n using Nat.strongRecOn with
  | _ n ih =>
    intro h
    by_cases hp : Pr n
    · exact ⟨n, hp, Nat.dvd_refl n⟩
    · have : ∃ d, d ∣ n ∧ d ≠ 1 ∧ d ≠ n := by
        apply Classical.byContradiction
        intro hc
        apply hp
        refine ⟨h, fun d hd => ?_⟩
        by_cases h1 : d = 1
        · exact Or.inl h1
        · by_cases h2 : d = n
          · exact Or.inr h2
          · exact absurd ⟨d, hd, h1, h2⟩ hc
      obtain ⟨d, hd, h1, h2⟩ := this
      have h3 : d ≤ n := Nat.le_of_dvd (by omega) hd
      have h4 : d ≠ 0 := by rintro rfl; have := Nat.eq_zero_of_zero_dvd hd; omega
      obtain ⟨q, hq, hqd⟩ := ih d (by omega) (by omega)
      exact ⟨q, hq, Nat.dvd_trans hqd hd⟩
theorem Pr.pos (h : Pr p) : 0 < p := by have := h.1; omega
theorem Pr.dvd_mul (h : Pr p) {a b : Nat} (hd : p ∣ a * b) : p ∣ a ∨ p ∣ b := by
  rcases h.2 (Nat.gcd p a) (Nat.gcd_dvd_left p a) with h1 | h1
  · exact Or.inr (Nat.Coprime.dvd_of_dvd_mul_left h1 hd)
  · exact Or.inl (h1 ▸ Nat.gcd_dvd_right p a)
theorem Pr.dvd_pow (h : Pr p) {a : Nat} : ∀ {n : Nat}, p ∣ a ^ n → p ∣ a
  | 0, hd => by have := h.1; rw [Nat.pow_zero] at hd; have := Nat.le_of_dvd (by omega) hd; omega
  | n + 1, hd => by rw [Nat.pow_succ] at hd; exact (h.dvd_mul hd).elim (fun h2 => h.dvd_pow h2) id
theorem Pr.idvd_mul (h : Pr p) {a b : Int} (hd : (p : Int) ∣ a * b) : (p : Int) ∣ a ∨ (p : Int) ∣ b := by
  rw [← Int.natAbs_dvd_natAbs, Int.natAbs_natCast, Int.natAbs_mul] at hd
  rw [← Int.natAbs_dvd_natAbs, ← Int.natAbs_dvd_natAbs (b := b), Int.natAbs_natCast]
  exact h.dvd_mul hd
theorem Pr.eq_of_dvd {q : Nat} (h : Pr p) (hq : Pr q) (hd : q ∣ p) : q = p := (h.2 q hd).resolve_left (by have := hq.1; omega)
theorem E.cancel (h : Pr p) {a b c : Int} (hc : ¬ (p : Int) ∣ c) (he : E p (c * a) (c * b)) : E p a b := by
  have : (p : Int) ∣ c * (a - b) := by rw [Int.mul_sub]; exact he
  exact (h.idvd_mul this).resolve_left hc
theorem Pr.sq_one (h : Pr p) {c : Int} (hc : E p (c * c) 1) : E p c 1 ∨ E p c (-1) := by
  have : (p : Int) ∣ (c - 1) * (c + 1) := by
    have e : (c - 1) * (c + 1) = c * c - 1 := by grind
    rw [e]; exact hc
  rcases h.idvd_mul this with h1 | h1
  · exact Or.inl h1
  · refine Or.inr ?_; show (p : Int) ∣ c - -1; rwa [Int.sub_neg]
theorem one_ne_neg (h3 : 3 ≤ p) (h : E p 1 (-1)) : False := by
  have h1 : (p : Int) ∣ 2 := h
  have := Int.le_of_dvd (by omega) h1
  omega
theorem gcd_pow {m : Nat} {a : Int} : ∀ (x y : Nat), E m (a ^ x) 1 → E m (a ^ y) 1 → E m (a ^ Nat.gcd x y) 1 := by
  intro x y
  induction x, y using Nat.gcd.induction with
  | H0 y => intro _ h2; rwa [Nat.gcd_zero_left]
  | H1 x y hx ih =>
    intro h1 h2
    rw [Nat.gcd_rec]
    refine ih ?_ h1
    have e : a ^ y = (a ^ x) ^ (y / x) * a ^ (y % x) := by rw [← Int.pow_mul, ← Int.pow_add, Nat.div_add_mod]
    have h3 : E m ((a ^ x) ^ (y / x) * a ^ (y % x)) (1 * a ^ (y % x)) := (h1.one_pow _).mul (E.refl _ _)
    rw [Int.one_mul, ← e] at h3
    exact h3.symm.trans h2
end
end Mr
set_option maxRecDepth 100000
set_option linter.unusedVariables false
set_option linter.unusedSimpArgs false
namespace Mr
def P (f : Nat → Int) : Nat → Int
  | 0 => 1
  | n + 1 => P f n * f (n + 1)
def S (f : Nat → Nat) : Nat → Nat
  | 0 => 0
  | n + 1 => S f n + f (n + 1)
theorem P_cong {m : Nat} {f g : Nat → Int} : ∀ n, (∀ i, 1 ≤ i → i ≤ n → E m (f i) (g i)) → E m (P f n) (P g n)
  | 0, _ => E.refl _ _
  | n + 1, h => (P_cong n fun i h1 h2 => h i h1 (by omega)).mul (h (n + 1) (by omega) (Nat.le_refl _))
theorem P_mul (f g : Nat → Int) : ∀ n, P (fun i => f i * g i) n = P f n * P g n
  | 0 => rfl
  | n + 1 => by rw [P, P_mul f g n, P, P]; grind
theorem P_const (a : Int) : ∀ n, P (fun _ => a) n = a ^ n
  | 0 => by rw [Int.pow_zero]; rfl
  | n + 1 => by rw [P, P_const a n, Int.pow_succ]
theorem P_sign (e : Nat → Nat) : ∀ n, P (fun i => (-1) ^ e i) n = (-1) ^ S e n
  | 0 => rfl
  | n + 1 => by rw [P, P_sign e n, S, Int.pow_add]
theorem S_cong {f g : Nat → Nat} : ∀ n, (∀ i, 1 ≤ i → i ≤ n → f i = g i) → S f n = S g n
  | 0, _ => rfl
  | n + 1, h => by rw [S, S, S_cong n fun i h1 h2 => h i h1 (by omega), h (n + 1) (by omega) (Nat.le_refl _)]
theorem S_par {f g : Nat → Nat} : ∀ n, (∀ i, 1 ≤ i → i ≤ n → f i % 2 = g i % 2) → S f n % 2 = S g n % 2
  | 0, _ => rfl
  | n + 1, h => by
    have h1 := S_par n fun i h1 h2 => h i h1 (by omega)
    have h2 := h (n + 1) (by omega) (Nat.le_refl _)
    rw [S, S]; omega
theorem S_add (f g : Nat → Nat) : ∀ n, S (fun i => f i + g i) n = S f n + S g n
  | 0 => rfl
  | n + 1 => by rw [S, S_add f g n, S, S]; omega
theorem S_zero : ∀ n, S (fun _ => 0) n = 0
  | 0 => rfl
  | n + 1 => by rw [S, S_zero n]
theorem S_swap (f : Nat → Nat → Nat) (k : Nat) : ∀ n, S (fun i => S (f i) k) n = S (fun j => S (fun i => f i j) n) k
  | 0 => by show 0 = S (fun _ => 0) k; rw [S_zero]
  | n + 1 => by
    rw [S, S_swap f k n]
    show _ = S (fun j => S (fun i => f i j) n + f (n + 1) j) k
    rw [S_add]
def dl : Nat → List Nat
  | 0 => []
  | n + 1 => (n + 1) :: dl n
theorem mem_dl : ∀ {n x : Nat}, x ∈ dl n ↔ 1 ≤ x ∧ x ≤ n
  | 0, x => by simp [dl]; omega
  | n + 1, x => by rw [dl, List.mem_cons, mem_dl]; omega
def pl : List Nat → Int
  | [] => 1
  | x :: l => (x : Int) * pl l
theorem pl_perm {l m : List Nat} (h : l.Perm m) : pl l = pl m := by
  induction h with
  | nil => rfl
  | cons x _ ih => rw [pl, pl, ih]
  | swap x y l => simp only [pl]; grind
  | trans _ _ ih1 ih2 => exact ih1.trans ih2
theorem nodup_le : ∀ (n : Nat) (l : List Nat), l.Nodup → (∀ x ∈ l, 1 ≤ x ∧ x ≤ n) → l.length ≤ n
  | 0, l, _, h => by
    cases l with
    | nil => simp
    | cons x l => have := h x (by simp); omega
  | n + 1, l, hn, h => by
    by_cases hm : n + 1 ∈ l
    · have hp := List.perm_cons_erase hm
      have h1 := hp.length_eq
      have h2 := hn.erase (n + 1)
      have h3 := nodup_le n (l.erase (n + 1)) h2 (fun x hx => by
        have h4 := (List.Nodup.mem_erase_iff hn).mp hx
        have h5 := h x h4.2
        have := h4.1
        omega)
      rw [List.length_cons] at h1
      omega
    · have := nodup_le n l hn (fun x hx => by
        have h5 := h x hx
        have : x ≠ n + 1 := fun e => hm (e ▸ hx)
        omega)
      omega
theorem nodup_pl : ∀ (n : Nat) (l : List Nat), l.Nodup → (∀ x ∈ l, 1 ≤ x ∧ x ≤ n) → l.length = n → pl l = P (fun i => i) n
  | 0, l, _, _, hl => by rw [List.length_eq_zero_iff] at hl; subst hl; rfl
  | n + 1, l, hn, h, hl => by
    have hm : n + 1 ∈ l := by
      apply Classical.byContradiction
      intro hm
      have := nodup_le n l hn (fun x hx => by
        have h5 := h x hx
        have : x ≠ n + 1 := fun e => hm (e ▸ hx)
        omega)
      omega
    have hp := List.perm_cons_erase hm
    have h1 := hp.length_eq
    rw [List.length_cons] at h1
    have h3 := nodup_pl n (l.erase (n + 1)) (hn.erase (n + 1)) (fun x hx => by
        have h4 := (List.Nodup.mem_erase_iff hn).mp hx
        have h5 := h x h4.2
        have := h4.1
        omega) (by omega)
    rw [pl_perm hp, pl, h3, P, Int.mul_comm]
theorem pl_map (s : Nat → Nat) : ∀ n, pl ((dl n).map s) = P (fun i => s i) n
  | 0 => rfl
  | n + 1 => by rw [dl, List.map_cons, pl, pl_map s n, P, Int.mul_comm]
theorem map_nodup (s : Nat → Nat) (n : Nat) (hs : ∀ i j, 1 ≤ i → i < j → j ≤ n → s i ≠ s j) : ∀ k, k ≤ n → ((dl k).map s).Nodup
  | 0, _ => by simp [dl]
  | k + 1, h => by
    rw [dl, List.map_cons, List.nodup_cons]
    refine ⟨fun hm => ?_, map_nodup s n hs k (by omega)⟩
    obtain ⟨i, hi, e⟩ := List.mem_map.mp hm
    have := mem_dl.mp hi
    exact hs i (k + 1) this.1 (by omega) h e
theorem dl_length : ∀ n, (dl n).length = n
  | 0 => rfl
  | n + 1 => by rw [dl, List.length_cons, dl_length n]
theorem P_perm (s : Nat → Nat) (n : Nat) (hs : ∀ i j, 1 ≤ i → i < j → j ≤ n → s i ≠ s j) (hr : ∀ i, 1 ≤ i → i ≤ n → 1 ≤ s i ∧ s i ≤ n) : P (fun i => s i) n = P (fun i => i) n := by
  rw [← pl_map]
  refine nodup_pl n _ (map_nodup s n hs n (Nat.le_refl _)) ?_ (by rw [List.length_map, dl_length])
  intro x hx
  obtain ⟨i, hi, e⟩ := List.mem_map.mp hx
  have := mem_dl.mp hi
  exact e ▸ hr i this.1 this.2
theorem P_unit {p n : Nat} (hp : Pr p) (h : n < p) : ¬ (p : Int) ∣ P (fun i => i) n := by
  induction n with
  | zero => intro hd; have := hp.1; have h1 : (p : Int) ∣ 1 := hd; have := Int.le_of_dvd (by omega) h1; omega
  | succ n ih =>
    intro hd
    rcases hp.idvd_mul hd with h1 | h1
    · exact ih (by omega) h1
    · have h2 : (p : Int) ∣ ((n + 1 : Nat) : Int) := h1
      have := Int.le_of_dvd (by omega) h2; omega
def upper (p h a i : Nat) : Nat := if a * i % p ≤ h then 0 else 1
theorem gauss {p h a : Nat} (hp : Pr p) (e : p = 2 * h + 1) (ha : ¬ p ∣ a) : E p ((a : Int) ^ h) ((-1) ^ S (upper p h a) h) := by
  let s : Nat → Nat := fun i => if a * i % p ≤ h then a * i % p else p - a * i % p
  have h0 : ∀ i, a * i % p < p := fun i => Nat.mod_lt _ (by omega)
  have hn : ∀ i, 1 ≤ i → i ≤ h → a * i % p ≠ 0 := by
    intro i h1 h2 h3
    rcases hp.dvd_mul (Nat.dvd_of_mod_eq_zero h3) with h4 | h4
    · exact ha h4
    · have := Nat.le_of_dvd h1 h4; omega
  have hr : ∀ i, 1 ≤ i → i ≤ h → 1 ≤ s i ∧ s i ≤ h := by
    intro i h1 h2
    have := hn i h1 h2; have := h0 i
    show 1 ≤ (if a * i % p ≤ h then a * i % p else p - a * i % p) ∧ (if a * i % p ≤ h then a * i % p else p - a * i % p) ≤ h
    split <;> omega
  have hE : ∀ i : Nat, E p (((a : Int)) * (i : Int)) ((-1) ^ upper p h a i * (s i : Int)) := by
    intro i
    have h1 : E p ((a * i : Nat) : Int) ((a * i % p : Nat) : Int) := (E.nmod p (a * i)).symm
    rw [Int.natCast_mul] at h1
    have h2 := h0 i
    show E p _ ((-1) ^ (if a * i % p ≤ h then 0 else 1) * ((if a * i % p ≤ h then a * i % p else p - a * i % p : Nat) : Int))
    split
    · simpa using h1
    · refine h1.trans ⟨1, ?_⟩
      rw [Int.natCast_sub (by omega)]
      simp
      omega
  have hs : ∀ i j, 1 ≤ i → i < j → j ≤ h → s i ≠ s j := by
    intro i j h1 h2 h3 h4
    have e1 := hE i
    have e2 := hE j
    rw [h4] at e1
    have e3 : E p ((a : Int) * i) ((a : Int) * j) ∨ E p ((a : Int) * i) ((a : Int) * -j) := by
      have hu : ∀ i, upper p h a i = 0 ∨ upper p h a i = 1 := fun i => by unfold upper; split <;> simp
      rcases hu i with u1 | u1 <;> rcases hu j with u2 | u2 <;> rw [u1] at e1 <;> rw [u2] at e2
      · exact Or.inl (e1.trans e2.symm)
      · refine Or.inr (e1.trans ?_)
        rw [Int.mul_neg]
        refine E.trans (E.of_eq ?_) e2.neg.symm
        rw [Int.pow_zero, Int.pow_succ, Int.pow_zero]
        omega
      · refine Or.inr (e1.trans ?_)
        rw [Int.mul_neg]
        refine E.trans (E.of_eq ?_) e2.neg.symm
        rw [Int.pow_zero, Int.pow_succ, Int.pow_zero]
        omega
      · exact Or.inl (e1.trans e2.symm)
    have ha2 : ¬ (p : Int) ∣ (a : Int) := fun hd => ha (Int.ofNat_dvd.mp hd)
    rcases e3 with e3 | e3
    · have e4 : (p : Int) ∣ (i : Int) - j := E.cancel hp ha2 e3
      have e5 : (p : Int) ∣ (j : Int) - i := by obtain ⟨k, hk⟩ := e4; exact ⟨-k, by grind⟩
      have := Int.le_of_dvd (by omega) e5
      omega
    · have e4 : (p : Int) ∣ (i : Int) - -j := E.cancel hp ha2 e3
      have := Int.le_of_dvd (by omega) e4
      omega
  have e1 : E p (P (fun i => (a : Int) * (i : Int)) h) (P (fun i => (-1) ^ upper p h a i * (s i : Int)) h) := P_cong h fun i _ _ => hE i
  rw [P_mul, P_mul, P_const, P_sign, P_perm s h hs hr] at e1
  rw [Int.mul_comm, Int.mul_comm _ (P _ h)] at e1
  exact E.cancel hp (P_unit hp (by omega)) e1
def G (a r : Nat) : Nat := S (fun j => (r - 1) / 2 + j * r / (2 * a)) (a - 1)
theorem S_le (x p : Nat) (hp : 0 < p) : ∀ k, S (fun j => if j * p ≤ x then 1 else 0) k = min k (x / p)
  | 0 => by simp [S]
  | k + 1 => by
    rw [S, S_le x p hp k]
    have := Nat.le_div_iff_mul_le hp (x := k + 1) (y := x)
    split
    · have h2 := this.mpr (by assumption); omega
    · have h2 := fun h => (by assumption : ¬ (k + 1) * p ≤ x) (this.mp h); omega
theorem S_gt (t : Nat) : ∀ h, S (fun i => if t < i then 1 else 0) h = h - t
  | 0 => by simp [S]
  | h + 1 => by rw [S, S_gt t h]; split <;> omega
theorem upper_par {p h a : Nat} (hp : Pr p) (e : p = 2 * h + 1) (ha : a < p) (h0 : 0 < a) (hc : ∀ j, 1 ≤ j → j < a → ¬ 2 * a ∣ j * p) : S (upper p h a) h % 2 = G a (p % (4 * a)) % 2 := by
  have h1 : S (upper p h a) h % 2 = S (fun i => 2 * (a * i) / p) h % 2 := by
    refine S_par h fun i _ _ => ?_
    have h2 : a * i % p < p := Nat.mod_lt _ (by omega)
    have h3 : 2 * (a * i) / p = 2 * (a * i / p) + (2 * (a * i % p)) / p := by
      have h4 : 2 * (a * i) = p * (2 * (a * i / p)) + 2 * (a * i % p) := by
        have := Nat.div_add_mod (a * i) p
        have h5 : p * (2 * (a * i / p)) = 2 * (p * (a * i / p)) := by rw [Nat.mul_left_comm]
        omega
      conv => lhs; rw [h4]
      rw [Nat.mul_add_div (by omega)]
    rw [h3]
    unfold upper
    split
    · have h7 : 2 * (a * i % p) / p = 0 := Nat.div_eq_of_lt (by omega)
      rw [h7]; omega
    · rename_i h6
      have h7 : 2 * (a * i % p) / p = 1 := Nat.div_eq_of_lt_le (by omega) (by omega)
      rw [h7]; omega
  have h2 : S (fun i => 2 * (a * i) / p) h = S (fun i => S (fun j => if j * p ≤ 2 * (a * i) then 1 else 0) (a - 1)) h := by
    refine S_cong h fun i _ hi => ?_
    rw [S_le _ _ (by omega)]
    have h3 : 2 * (a * i) < a * p := by
      have : a * (2 * i) < a * p := Nat.mul_lt_mul_of_pos_left (by omega) h0
      have h4 : a * (2 * i) = 2 * (a * i) := by rw [Nat.mul_left_comm]
      omega
    have h4 : 2 * (a * i) / p < a := (Nat.div_lt_iff_lt_mul (by omega)).mpr h3
    omega
  rw [h1, h2, S_swap]
  refine S_par _ fun j hj1 hj2 => ?_
  have h3 : S (fun i => if j * p ≤ 2 * (a * i) then 1 else 0) h = h - j * p / (2 * a) := by
    rw [← S_gt]
    refine S_cong h fun i _ _ => ?_
    have h4 : j * p / (2 * a) < i ↔ j * p < i * (2 * a) := Nat.div_lt_iff_lt_mul (by omega)
    have h5 : i * (2 * a) = 2 * (a * i) := by rw [Nat.mul_left_comm, Nat.mul_comm i a]
    have h6 : j * p ≠ i * (2 * a) := fun h7 => hc j hj1 (by omega) ⟨i, by rw [h7, Nat.mul_comm]⟩
    by_cases h7 : j * p ≤ 2 * (a * i)
    · rw [if_pos h7, if_pos (h4.mpr (by omega))]
    · rw [if_neg h7, if_neg (fun h8 => h7 (by have := h4.mp h8; omega))]
  rw [h3]
  have h4 : j * p / (2 * a) ≤ h := by
    have h5 : j * p ≤ a * p := Nat.mul_le_mul_right _ (by omega)
    have h6 : j * p / (2 * a) < h + 1 := by
      rw [Nat.div_lt_iff_lt_mul (by omega)]
      have h7 : (h + 1) * (2 * a) = a * (2 * (h + 1)) := by grind
      have h8 : a * p < a * (2 * (h + 1)) := Nat.mul_lt_mul_of_pos_left (by omega) h0
      omega
    omega
  have h5 := Nat.div_add_mod p (4 * a)
  generalize p / (4 * a) = s at h5
  generalize p % (4 * a) = r at h5 ⊢
  have h6 : 4 * a * s = 2 * (2 * a * s) := by grind
  have h7 : j * p / (2 * a) = 2 * (j * s) + j * r / (2 * a) := by
    have h8 : j * p = 2 * a * (2 * (j * s)) + j * r := by rw [← h5]; grind
    rw [h8, Nat.mul_add_div (by omega)]
  have h9 : h = 2 * (a * s) + (r - 1) / 2 := by
    have h10 : 2 * a * s = 2 * (a * s) := by rw [Nat.mul_assoc]
    omega
  omega
end Mr
set_option maxRecDepth 100000
set_option linter.unusedVariables false
set_option linter.unusedSimpArgs false
namespace Mr
def Mon : Nat → (Int → Int) → Prop
  | 0, f => ∀ x, f x = 1
  | k + 1, f => ∃ c g, Mon k g ∧ ∀ x, f x = c + x * g x
theorem Mon.div : ∀ (k : Nat) (f : Int → Int), Mon (k + 1) f → ∀ r, ∃ g, Mon k g ∧ ∀ x, f x - f r = (x - r) * g x
  | 0, f, ⟨c, g, hg, e⟩, r => ⟨g, hg, fun x => by rw [e, e, hg, hg]; grind⟩
  | k + 1, f, ⟨c, g, hg, e⟩, r => by
    obtain ⟨h, hh, e2⟩ := Mon.div k g hg r
    refine ⟨fun x => g r + x * h x, ⟨g r, h, hh, fun _ => rfl⟩, fun x => ?_⟩
    have := e2 x
    rw [e, e]; grind
theorem Mon.pow : ∀ k : Nat, Mon k (fun x => x ^ k)
  | 0 => fun _ => Int.pow_zero _
  | k + 1 => ⟨0, fun x => x ^ k, Mon.pow k, fun x => by show x ^ (k + 1) = _; rw [Int.pow_succ]; grind⟩
theorem Mon.root (k : Nat) : Mon (k + 1) (fun x => x ^ (k + 1) - 1) :=
  ⟨-1, fun x => x ^ k, Mon.pow k, fun x => by show x ^ (k + 1) - 1 = _; rw [Int.pow_succ]; grind⟩
def Apart (m : Nat) (l : List Int) : Prop := l.Pairwise fun x y => ¬ E m x y
theorem roots {p : Nat} (hp : Pr p) : ∀ (k : Nat) (f : Int → Int), Mon k f → ∀ l : List Int, Apart p l → (∀ x ∈ l, (p : Int) ∣ f x) → l.length ≤ k
  | 0, f, hf, l, _, hl => by
    cases l with
    | nil => simp
    | cons x l =>
      have h1 := hl x (by simp)
      rw [hf] at h1
      have := hp.1
      have := Int.le_of_dvd (by omega) h1
      omega
  | k + 1, f, hf, l, ha, hl => by
    cases l with
    | nil => simp
    | cons r l =>
      obtain ⟨g, hg, e⟩ := hf.div k f r
      obtain ⟨h1, h2⟩ := List.pairwise_cons.mp ha
      have := roots hp k g hg l h2 (fun x hx => by
        have h3 : (p : Int) ∣ (x - r) * g x := by
          rw [← e]; exact Int.dvd_sub (hl x (by simp [hx])) (hl r (by simp))
        rcases hp.idvd_mul h3 with h4 | h4
        · exact absurd (E.symm h4) (h1 x hx)
        · exact h4)
      rw [List.length_cons]; omega
theorem roots_pow {p k : Nat} (hp : Pr p) (hk : 0 < k) (l : List Int) (ha : Apart p l) (hl : ∀ x ∈ l, E p (x ^ k) 1) : l.length ≤ k := by
  cases k with
  | zero => omega
  | succ k => exact roots hp (k + 1) _ (Mon.root k) l ha hl
def quo (x y : Int) : Nat → Int
  | 0 => 0
  | k + 1 => x ^ k + y * quo x y k
theorem quo_mul (x y : Int) : ∀ k, x ^ k - y ^ k = (x - y) * quo x y k
  | 0 => by simp [quo]
  | k + 1 => by
    have := quo_mul x y k
    rw [quo, Int.pow_succ, Int.pow_succ]; grind
theorem quo_cong {m : Nat} {x y : Int} (h : E m y x) : ∀ k, E m (x * quo x y k) (k * x ^ k)
  | 0 => by simp [quo]; exact E.refl _ _
  | k + 1 => by
    have h1 := (h.mul (quo_cong h k))
    have e1 : x * quo x y (k + 1) = x ^ (k + 1) + y * (x * quo x y k) := by rw [quo, Int.pow_succ]; grind
    have e2 : ((k + 1 : Nat) : Int) * x ^ (k + 1) = x ^ (k + 1) + x * (k * x ^ k) := by rw [Int.pow_succ]; simp; grind
    rw [e1, e2]
    exact (E.refl _ _).add h1
theorem same_sq {p : Nat} (hp : Pr p) {x y : Int} (hx : E (p * p) (x ^ (p - 1)) 1) (hy : E (p * p) (y ^ (p - 1)) 1) (h : E p x y) : E (p * p) x y := by
  have h2 := hp.1
  have h1 : ((p * p : Nat) : Int) ∣ (x - y) * quo x y (p - 1) := by rw [← quo_mul]; exact hx.trans hy.symm
  have hx1 : E p (x ^ (p - 1)) 1 := hx.dvd ⟨p, rfl⟩
  have h3 : ¬ (p : Int) ∣ quo x y (p - 1) := by
    intro hd
    have h4 := quo_cong (E.symm h) (p - 1)
    have h5 : E p ((p - 1 : Nat) * x ^ (p - 1)) 0 := h4.symm.trans (by show (p : Int) ∣ _; rw [Int.sub_zero]; exact Int.dvd_mul_of_dvd_right hd)
    have h6 : E p ((p - 1 : Nat) * 1) 0 := ((E.refl p _).mul hx1.symm).trans h5
    have h7 : (p : Int) ∣ ((p - 1 : Nat) : Int) := by have h8 : (p : Int) ∣ ((p - 1 : Nat) : Int) * 1 - 0 := h6; rwa [Int.mul_one, Int.sub_zero] at h8
    have := Int.le_of_dvd (by omega) h7
    omega
  obtain ⟨t, ht⟩ := (show (p : Int) ∣ x - y from h)
  rw [ht, Int.natCast_mul, Int.mul_assoc] at h1
  have h4 : (p : Int) ∣ t * quo x y (p - 1) := Int.dvd_of_mul_dvd_mul_left (by omega) h1
  obtain ⟨s, hs⟩ := (hp.idvd_mul h4).resolve_right h3
  exact ⟨s, by rw [ht, hs, Int.natCast_mul, Int.mul_assoc]⟩
theorem roots_sq {p : Nat} (hp : Pr p) (l : List Int) (ha : Apart (p * p) l) (hl : ∀ x ∈ l, E (p * p) (x ^ (p - 1)) 1) : l.length ≤ p - 1 := by
  have h2 := hp.1
  refine roots_pow hp (by omega) l ?_ (fun x hx => (hl x hx).dvd ⟨p, rfl⟩)
  exact List.Pairwise.imp_of_mem (fun hx hy h h3 => h (same_sq hp (hl _ hx) (hl _ hy) h3)) ha
end Mr
set_option maxRecDepth 100000
set_option linter.unusedVariables false
set_option linter.unusedSimpArgs false
namespace Mr
def Bs : List Nat := [2, 3, 5, 7, 11, 13, 17, 19, 23, 29, 31, 37]
def Rs : List Nat := [5, 7, 11, 13, 17, 19, 23, 29, 31, 37]
def qr (r x : Nat) : Bool := (dl r).any fun y => Nat.beq (Nat.mod (Nat.mul y y) r) x
def sg (a r : Nat) : Bool := Nat.beq (Nat.mod (G a r) 2) 0
theorem pr_small : ∀ a ∈ Bs, Pr a := by
  have h : ∀ a ∈ Bs, 2 ≤ a ∧ ∀ d, d < a + 1 → d ∣ a → d = 1 ∨ d = a := by decide +kernel
  intro a ha
  obtain ⟨h1, h2⟩ := h a ha
  exact ⟨h1, fun d hd => h2 d (by have := Nat.le_of_dvd (by omega) hd; omega) hd⟩
theorem bs_range : ∀ a ∈ Bs, 2 ≤ a ∧ a ≤ 37 := by decide
theorem not_dvd {p a : Nat} (hp : Pr p) (h37 : 37 < p) (ha : a ∈ Bs) : ¬ p ∣ a := fun hd => by
  have := bs_range a ha
  have := Nat.le_of_dvd (by omega) hd
  omega
theorem chi {p h a : Nat} (hp : Pr p) (e : p = 2 * h + 1) (ha : a ∈ Bs) (h37 : 37 < p) : E p ((a : Int) ^ h) (if sg a (p % (4 * a)) = true then 1 else -1) := by
  have hr := bs_range a ha
  have h1 := gauss hp e (not_dvd hp h37 ha)
  rw [neg_one_pow] at h1
  rw [upper_par hp e (by omega) (by omega)] at h1
  · have h2 : sg a (p % (4 * a)) = true ↔ G a (p % (4 * a)) % 2 = 0 := by
      unfold sg
      exact ⟨fun h => Nat.eq_of_beq_eq_true h, fun h => by rw [show Nat.mod (G a (p % (4 * a))) 2 = 0 from h]; rfl⟩
    by_cases h3 : G a (p % (4 * a)) % 2 = 0
    · rw [if_pos h3] at h1; rwa [if_pos (h2.mpr h3)]
    · rw [if_neg h3] at h1; rwa [if_neg (fun h => h3 (h2.mp h))]
  · intro j hj1 hj2 hd
    have h2 : a ∣ j * p := Nat.dvd_trans (Nat.dvd_mul_left a 2) hd
    rcases (pr_small a ha).dvd_mul h2 with h3 | h3
    · have := Nat.le_of_dvd (by omega) h3; omega
    · have := hp.eq_of_dvd (pr_small a ha) h3; omega
theorem chi_sq {p h a : Nat} (hp : Pr p) (e : p = 2 * h + 1) (ha : a ∈ Bs) (h37 : 37 < p) : E p ((a : Int) ^ h * (a : Int) ^ h) 1 := by
  have h1 := chi hp e ha h37
  refine (h1.mul h1).trans (E.of_eq ?_)
  split <;> rfl
theorem fermat {p a : Nat} (hp : Pr p) (h2 : p % 2 = 1) (ha : a ∈ Bs) (h37 : 37 < p) : E p ((a : Int) ^ (p - 1)) 1 := by
  have e : p = 2 * (p / 2) + 1 := by omega
  have h1 := chi_sq hp e ha h37
  rw [← Int.pow_add] at h1
  rwa [show p - 1 = p / 2 + p / 2 by omega]
theorem kind1 {p h d : Nat} {a : Int} (hp : Pr p) (h3 : 3 ≤ p) (hs : E p (a ^ h * a ^ h) 1) (hd : d % 2 = 1) (ht : E p (a ^ d) 1) : E p (a ^ h) 1 := by
  rcases hp.sq_one hs with h1 | h1
  · exact h1
  · have h2 := h1.pow d
    rw [neg_one_pow, if_neg (by omega), ← Int.pow_mul, Nat.mul_comm, Int.pow_mul] at h2
    exact (one_ne_neg h3 ((ht.one_pow h).symm.trans h2)).elim
theorem kind2 {p u w d i : Nat} {a : Int} (hp : Pr p) (h3 : 3 ≤ p) (hs : E p (a ^ (2 ^ u * w) * a ^ (2 ^ u * w)) 1) (hw : w % 2 = 1) (hd : d % 2 = 1) (ht : E p (a ^ (2 ^ i * d)) (-1)) :
    i ≤ u ∧ E p (a ^ (2 ^ u * w)) (if i = u then -1 else 1) := by
  have hi : i ≤ u := by
    apply Classical.byContradiction
    intro hc
    have h1 := ht.pow w
    rw [neg_one_pow, if_neg (by omega), ← Int.pow_mul] at h1
    have e : 2 ^ i * d * w = (2 ^ u * w + 2 ^ u * w) * (2 ^ (i - u - 1) * d) := by
      have : 2 ^ i = 2 ^ u * 2 * 2 ^ (i - u - 1) := by rw [← Nat.pow_succ, ← Nat.pow_add]; congr 1; omega
      rw [this]; grind
    rw [e, Int.pow_mul, Int.pow_add] at h1
    exact one_ne_neg h3 ((hs.one_pow _).symm.trans h1)
  refine ⟨hi, ?_⟩
  have h1 := ht.pow (2 ^ (u - i) * w)
  rw [← Int.pow_mul] at h1
  have e : 2 ^ i * d * (2 ^ (u - i) * w) = 2 ^ u * w * d := by
    have : 2 ^ u = 2 ^ i * 2 ^ (u - i) := by rw [← Nat.pow_add]; congr 1; omega
    rw [this]; grind
  rw [e, Int.pow_mul] at h1
  have h2 : (-1 : Int) ^ (2 ^ (u - i) * w) = if i = u then -1 else 1 := by
    rw [neg_one_pow]
    by_cases hiu : i = u
    · rw [if_pos hiu, hiu, Nat.sub_self, Nat.pow_zero, Nat.one_mul, if_neg (by omega)]
    · rw [if_neg hiu, if_pos]
      have : 2 ^ (u - i) = 2 * 2 ^ (u - i - 1) := by rw [← Nat.pow_succ']; congr 1; omega
      rw [this, Nat.mul_assoc, Nat.mul_mod_right]
  rw [h2] at h1
  rcases hp.sq_one hs with h4 | h4
  · have h5 := h4.one_pow d
    exact h4.trans (h5.symm.trans h1)
  · have h5 := h4.pow d
    rw [neg_one_pow, if_neg (by omega)] at h5
    exact h4.trans (h5.symm.trans h1)
def Sp (n d : Nat) (a : Nat) : Prop := E n ((a : Int) ^ d) 1 ∨ ∃ i, E n ((a : Int) ^ (2 ^ i * d)) (-1)
theorem exists_odd : ∀ m : Nat, 0 < m → ∃ u w, m = 2 ^ u * w ∧ w % 2 = 1 := by
  intro m
  induction m using Nat.strongRecOn with
  | _ m ih =>
    intro h
    by_cases h2 : m % 2 = 1
    · exact ⟨0, m, by omega, h2⟩
    · obtain ⟨u, w, e, hw⟩ := ih (m / 2) (by omega) (by omega)
      refine ⟨u + 1, w, ?_, hw⟩
      rw [Nat.pow_succ', Nat.mul_assoc, ← e]; omega
theorem sg_true {p h a : Nat} (hp : Pr p) (e : p = 2 * h + 1) (ha : a ∈ Bs) (h37 : 37 < p) : sg a (p % (4 * a)) = true ↔ E p ((a : Int) ^ h) 1 := by
  have h1 := chi hp e ha h37
  constructor
  · intro h2; rwa [if_pos h2] at h1
  · intro h2
    apply Classical.byContradiction
    intro h3
    rw [if_neg h3] at h1
    exact one_ne_neg (by omega) (h2.symm.trans h1)
section
variable {n d p q u u' w w' a : Nat}
theorem char_lt (hd : d % 2 = 1) (hp : Pr p) (hq : Pr q) (hpn : p ∣ n) (hqn : q ∣ n) (p37 : 37 < p) (q37 : 37 < q) (ep : p = 2 * (2 ^ u * w) + 1) (eq : q = 2 * (2 ^ u' * w') + 1)
    (hw : w % 2 = 1) (hw' : w' % 2 = 1) (ha : a ∈ Bs) (hs : Sp n d a) (hu : u < u') : sg a (q % (4 * a)) = true := by
  rw [sg_true hq eq ha q37]
  rcases hs with hs | ⟨i, hs⟩
  · exact kind1 hq (by omega) (chi_sq hq eq ha q37) hd (hs.dvd hqn)
  · have h1 := kind2 hp (by omega) (chi_sq hp ep ha p37) hw hd (hs.dvd hpn)
    have h2 := kind2 hq (by omega) (chi_sq hq eq ha q37) hw' hd (hs.dvd hqn)
    rw [if_neg (by omega)] at h2
    exact h2.2
theorem char_eq (hd : d % 2 = 1) (hp : Pr p) (hq : Pr q) (hpn : p ∣ n) (hqn : q ∣ n) (p37 : 37 < p) (q37 : 37 < q) (ep : p = 2 * (2 ^ u * w) + 1) (eq : q = 2 * (2 ^ u * w') + 1)
    (hw : w % 2 = 1) (hw' : w' % 2 = 1) (ha : a ∈ Bs) (hs : Sp n d a) : sg a (p % (4 * a)) = sg a (q % (4 * a)) := by
  rw [Bool.eq_iff_iff, sg_true hq eq ha q37, sg_true hp ep ha p37]
  rcases hs with hs | ⟨i, hs⟩
  · exact iff_of_true (kind1 hp (by omega) (chi_sq hp ep ha p37) hd (hs.dvd hpn)) (kind1 hq (by omega) (chi_sq hq eq ha q37) hd (hs.dvd hqn))
  · have h1 := (kind2 hp (by omega) (chi_sq hp ep ha p37) hw hd (hs.dvd hpn)).2
    have h2 := (kind2 hq (by omega) (chi_sq hq eq ha q37) hw' hd (hs.dvd hqn)).2
    by_cases hi : i = u
    · rw [if_pos hi] at h1 h2
      exact iff_of_false (fun h => one_ne_neg (by omega) (h.symm.trans h1)) (fun h => one_ne_neg (by omega) (h.symm.trans h2))
    · rw [if_neg hi] at h1 h2
      exact iff_of_true h1 h2
end
theorem two_ok : ∀ x < 8, x % 2 = 1 → sg 2 x = (x % 8 == 1 || x % 8 == 7) := by decide +kernel
def recOk (r : Nat) : Bool := (dl (4 * r)).all fun x => Nat.beq (x % 2) 0 || Nat.beq (x % r) 0 || (Bool.xor (sg r (x % (4 * r))) (Bool.xor (Nat.beq (x % 4) 3 && Nat.beq (r % 4) 3) (!qr r (x % r))))
theorem rec_all : (3 :: Rs).all recOk = true := by decide +kernel
theorem rec_law {r x : Nat} (hr : r ∈ 3 :: Rs) (h2 : x % 2 = 1) (hx : x % r ≠ 0) : sg r (x % (4 * r)) = Bool.xor (x % 4 == 3 && r % 4 == 3) (qr r (x % r)) := by
  have h1 := List.all_eq_true.mp rec_all r hr
  unfold recOk at h1
  have hr0 : 0 < r := Nat.pos_of_ne_zero (fun h => by subst h; revert hr; decide)
  have h3 : x % (4 * r) < 4 * r := Nat.mod_lt _ (by omega)
  have h4 : x % (4 * r) % 4 = x % 4 := Nat.mod_mod_of_dvd _ ⟨r, rfl⟩
  have h5 : x % (4 * r) % r = x % r := Nat.mod_mod_of_dvd _ ⟨4, Nat.mul_comm _ _⟩
  have h6 : x % (4 * r) % (4 * r) = x % (4 * r) := Nat.mod_mod _ _
  have h7 := List.all_eq_true.mp h1 (x % (4 * r)) (mem_dl.mpr ⟨by
    apply Nat.pos_of_ne_zero; intro h0; rw [h0] at h5; simp at h5; exact hx h5.symm, by omega⟩)
  rw [h4, h5, h6] at h7
  have h8 : x % (4 * r) % 2 = 1 := by omega
  have e1 : Nat.beq (x % (4 * r) % 2) 0 = false := by rw [h8]; rfl
  have e2 : Nat.beq (x % r) 0 = false := by
    cases h : Nat.beq (x % r) 0 with
    | false => rfl
    | true => exact absurd (Nat.eq_of_beq_eq_true h) hx
  rw [e1, e2] at h7
  have e3 : ∀ a b : Nat, Nat.beq a b = (a == b) := fun a b => by rw [Bool.eq_iff_iff, Nat.beq_eq, beq_iff_eq]
  rw [e3, e3] at h7
  revert h7
  generalize sg r (x % (4 * r)) = A
  generalize (x % 4 == 3) = B
  generalize (r % 4 == 3) = C
  generalize qr r (x % r) = D
  cases A <;> cases B <;> cases C <;> cases D <;> simp
end Mr
