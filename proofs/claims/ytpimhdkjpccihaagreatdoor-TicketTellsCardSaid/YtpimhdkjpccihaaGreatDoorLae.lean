/- Parts of the proof of the seat's statements (RfD, RfE, RfF, RfG, RfH, RfI, HRc, TcF, HRd, RgA, RgB, RgC, TkQ, HLa, LaA, LaB): lemmas about the given translation and plain laws. No condition of their own. -/
import Derived.Test.YtpimhdkjpccihaaGreatDoorLad
import Derived.Test.YtpimhdkjpccihaaGreatDoorProg
import Derived.Laws.IdiomStrings
set_option linter.all false
namespace Go.Proofs
open Go Go.Sh Go.RowKit FdSpec TkSpec
set_option linter.unusedSimpArgs false
set_option linter.unusedVariables false
set_option maxRecDepth 10000
section
variable {K : Value → World → Prop} {w : World}
@[reducible] def grpC (g : Grp) : List Value := [.int .i64 g.P, .int .i64 g.Q, .int .i64 g.G]
def memM (g : Grp) (x : Int) : Bool := decide (1 ≤ x) && decide (x < g.P) && decide (pw g.P x g.Q.toNat = 1)
theorem rMember_ok (g : Grp) (x : Int) (hP : okN g.P) (hQ : 0 ≤ g.Q ∧ g.Q < 9223372036854775808) (k : ∀ w', Below w.heap.size w w' → K (.bool (memM g x)) w') : callM Tryz.prog 149 #[grpV g, .int .i64 x] K w := by
  apply sh_149_ok
  unfold sh_149
  refine box_kn (cs := grpC g) rfl (.start w) fun b W hk hb1 hb => ?_
  have k := k W hk.below
  unfold memM at k
  have hp1 := hP.1
  by_cases h1 : 1 ≤ x
  · by_cases h2 : x < g.P
    · rw [decide_eq_true h1, decide_eq_true h2, Bool.true_and, Bool.true_and] at k
      obtain ⟨q, hq⟩ := natN g.Q hQ.1
      repeat (any_goals (first
      | (with_reducible first|refine pureM_in ?_|((refine idGd ?_); refine zA ?_)|((refine idPick ?_); refine yB ?_))
      | ((with_reducible refine idO ?_); (with_reducible refine oM_gen fun Kv hK=>?_); simp [go_sem, hk.cells, h1, h2]; refine hK _ _ ?_; clear hK; clear Kv)))
      have e : (Value.int .i64 g.Q) = .int .i64 (q : Int) := by rw [hq]
      rw [e]
      refine rpow_ok g.P x q hP (by omega) ?_
      rw [hq, Int.toNat_natCast] at k
      generalize pw g.P x q = z at *
      repeat (any_goals (first
      | (with_reducible first|((refine idGd ?_); refine zA ?_)|((refine idPick ?_); refine yB ?_))
      | ((with_reducible refine idO ?_); (with_reducible refine oM_gen fun Kv hK=>?_); simp [go_sem]; refine hK _ _ ?_; clear hK; clear Kv)))
      exact k
    · rw [decide_eq_false h2] at k
      repeat (any_goals (first
      | (with_reducible first|refine pureM_in ?_|((refine idGd ?_); first|refine zA ?_|refine zB ?_)|((refine idPick ?_); first|refine yB ?_|refine yC ?_))
      | ((with_reducible refine idO ?_); (with_reducible refine oM_gen fun Kv hK=>?_); simp [go_sem, hk.cells, h1, h2]; refine hK _ _ ?_; clear hK; clear Kv)))
      simpa using k
  · rw [decide_eq_false h1] at k
    repeat (any_goals (first
    | (with_reducible first|((refine idGd ?_); refine zB ?_)|((refine idPick ?_); refine yC ?_))
    | ((with_reducible refine idO ?_); (with_reducible refine oM_gen fun Kv hK=>?_); simp [go_sem, hk.cells, h1]; refine hK _ _ ?_; clear hK; clear Kv)))
    simpa using k
theorem validG_facts {g : Grp} (h : validG g = true) : okN g.P ∧ okN g.Q ∧ 5 ≤ g.Q ∧ 2 ≤ g.G := by
  unfold validG at h
  split at h
  · cases h
  rename_i hn
  exact ⟨⟨by omega, by omega⟩, ⟨by omega, by omega⟩, by omega, by omega⟩
theorem elemG_eq {g : Grp} (h : validG g = true) (x : Int) : elemG g x = memM g x := by
  unfold elemG memM; rw [h, Bool.and_true]
theorem rElement_ok (g : Grp) (x : Int) (hg : GrpR g) (k : ∀ w', Below w.heap.size w w' → K (.bool (elemG g x)) w') : callM Tryz.prog 87 #[grpV g, .int .i64 x] K w := by
  apply sh_87_ok
  unfold sh_87
  refine box_kn (cs := grpC g) rfl (.start w) fun b W hk hb1 hb => ?_
  have e0 : elemG g x = (decide (1 ≤ x) && decide (x < g.P) && validG g && decide (pw g.P x g.Q.toNat = 1)) := rfl
  by_cases h1 : 1 ≤ x
  · by_cases h2 : x < g.P
    · repeat (any_goals (first
      | (with_reducible first|refine pureM_in ?_|((refine idGd ?_); refine zA ?_)|((refine idPick ?_); refine yB ?_))
      | ((with_reducible refine idO ?_); (with_reducible refine oM_gen fun Kv hK=>?_); simp [go_sem, hk.cells, h1, h2]; refine hK _ _ ?_; clear hK; clear Kv)))
      refine rValidGroup_ok g hg (fun w1 h => ?_)
      have hk := hk.next h
      cases hv : validG g with
      | false =>
        repeat (any_goals (with_reducible first|((refine idGd ?_); refine zB ?_)|((refine idPick ?_); first|refine yB ?_|refine yC ?_)))
        have k := k _ hk.below
        rw [e0, hv] at k
        simpa using k
      | true =>
        have hf := validG_facts hv
        have hq := hf.2.1.1
        have hq2 := hf.2.1.2
        repeat (any_goals (first
        | (with_reducible first|refine pureM_in ?_|((refine idGd ?_); refine zA ?_)|((refine idPick ?_); refine yB ?_))
        | ((with_reducible refine idO ?_); (with_reducible refine oM_gen fun Kv hK=>?_); simp [go_sem, hk.cells]; refine hK _ _ ?_; clear hK; clear Kv)))
        refine rMember_ok g x hf.1 ⟨by omega, by omega⟩ (fun w2 h => ?_)
        have hk := hk.next h
        repeat (any_goals (with_reducible ((refine idPick ?_); refine yB ?_)))
        have k := k _ hk.below
        rw [elemG_eq hv] at k
        exact k
    · have k := k _ hk.below
      rw [e0, decide_eq_false h2] at k
      repeat (any_goals (first
      | (with_reducible first|refine pureM_in ?_|((refine idGd ?_); first|refine zA ?_|refine zB ?_)|((refine idPick ?_); first|refine yB ?_|refine yC ?_))
      | ((with_reducible refine idO ?_); (with_reducible refine oM_gen fun Kv hK=>?_); simp [go_sem, hk.cells, h1, h2]; refine hK _ _ ?_; clear hK; clear Kv)))
      simpa using k
  · have k := k _ hk.below
    rw [e0, decide_eq_false h1] at k
    repeat (any_goals (first
    | (with_reducible first|((refine idGd ?_); refine zB ?_)|((refine idPick ?_); refine yC ?_))
    | ((with_reducible refine idO ?_); (with_reducible refine oM_gen fun Kv hK=>?_); simp [go_sem, hk.cells, h1]; refine hK _ _ ?_; clear hK; clear Kv)))
    simpa using k
theorem rPower_ok (g : Grp) (x n : Int) (k : ∀ w', Below w.heap.size w w' → K (.int .i64 (powerG g x n)) w') : callM Tryz.prog 147 #[grpV g, .int .i64 x, .int .i64 n] K w := by
  apply sh_147_ok
  unfold sh_147
  refine box_kn (cs := grpC g) rfl (.start w) fun b W hk hb1 hb => ?_
  unfold powerG at k
  repeat (any_goals ((with_reducible refine idO ?_); (with_reducible refine oM_gen fun Kv hK=>?_); simp [go_sem, hk.cells]; refine hK _ _ ?_; clear hK; clear Kv))
  refine rValid_ok g.P ?_
  by_cases hp : okN g.P
  · repeat (any_goals (first
    | (with_reducible ((refine idGd ?_); ((refine idGdN ?_); refine zO ?_)))
    | ((with_reducible refine idO ?_); (with_reducible refine oM_gen fun Kv hK=>?_); simp [go_sem, hk.cells]; refine hK _ _ ?_; clear hK; clear Kv)))
    refine rValid_ok g.Q ?_
    by_cases hq : okN g.Q
    · rw [if_pos ⟨hp, hq⟩] at k
      repeat (any_goals (first
      | (with_reducible first|((refine idGd ?_); ((refine idGdN ?_); refine zO ?_))|((refine idPick ?_); refine yG ?_)|((refine idCond ?_); refine yR ?_))
      | ((with_reducible refine idO ?_); (with_reducible refine oM_gen fun Kv hK=>?_); simp [go_sem, hk.cells]; refine hK _ _ ?_; clear hK; clear Kv)))
      refine ⟨Kn w _, hk.drew, rfl, ?_⟩
      repeat (any_goals (first
      | (with_reducible refine pureH_in ?_)
      | ((with_reducible refine idOH ?_); (with_reducible refine oH_of ⟨_, rfl⟩ (fun W0 hW0 => by (refine oM_gen (fun Kv hK => ?_)); simp [go_sem, hW0.cells]; (first | exact hK _ _ ⟨rfl, rfl⟩ | exact ⟨by omega, hK _ _ ⟨rfl, rfl⟩⟩)) ?_))))
      refine ⟨Nx, fun w1 hk => ?_⟩
      refine rResidue_ok g.Q n hq ?_
      have hq1 := hq.1
      have hq2 := hq.2
      have a3 := Int.emod_nonneg n (b := g.Q) (by omega)
      have a4 := Int.emod_lt_of_pos n (b := g.Q) (by omega)
      obtain ⟨m, hm⟩ := natN (n % g.Q) a3
      refine ⟨hk, ?_⟩
      rw [hm] at k ⊢
      rw [Int.toNat_natCast] at k
      refine rpow_ok g.P x m hp (by omega) ?_
      exact ⟨hk, hk, k _ hk.below⟩
    · rw [if_neg (fun h => hq h.2)] at k
      repeat (any_goals (first
      | (with_reducible first|((refine idGd ?_); ((refine idGdN ?_); refine zO ?_))|((refine idPick ?_); refine yG ?_)|((refine idCond ?_); refine yQ ?_))
      | ((with_reducible refine idO ?_); (with_reducible refine oM_gen fun Kv hK=>?_); simp [go_sem, hk.cells]; refine hK _ _ ?_; clear hK; clear Kv)))
      exact k _ hk.below
  · rw [if_neg (fun h => hp h.1)] at k
    repeat (any_goals (first
    | (with_reducible first|((refine idGd ?_); ((refine idGdN ?_); refine zP ?_))|((refine idPick ?_); refine yF ?_)|((refine idCond ?_); refine yL ?_))
    | ((with_reducible refine idO ?_); (with_reducible refine oM_gen fun Kv hK=>?_); simp [go_sem, hk.cells]; refine hK _ _ ?_; clear hK; clear Kv)))
    exact k _ hk.below
theorem rTimes_ok (g : Grp) (x n : Int) (k : ∀ w', Below w.heap.size w w' → K (.int .i64 (timesG g x n)) w') : callM Tryz.prog 151 #[grpV g, .int .i64 x, .int .i64 n] K w := by
  apply sh_151_ok
  unfold sh_151
  refine box_kn (cs := grpC g) rfl (.start w) fun b W hk hb1 hb => ?_
  unfold timesG at k
  repeat (any_goals ((with_reducible refine idO ?_); (with_reducible refine oM_gen fun Kv hK=>?_); simp [go_sem, hk.cells]; refine hK _ _ ?_; clear hK; clear Kv))
  refine rValid_ok g.Q ?_
  by_cases hq : okN g.Q
  · rw [if_pos hq] at k
    repeat (any_goals (first
    | (with_reducible ((refine idCond ?_); refine yR ?_))
    | ((with_reducible refine idO ?_); (with_reducible refine oM_gen fun Kv hK=>?_); simp [go_sem, hk.cells]; refine hK _ _ ?_; clear hK; clear Kv)))
    refine rMul_ok g.P x n ?_
    exact k _ hk.below
  · rw [if_neg hq] at k
    repeat (any_goals (first
    | (with_reducible ((refine idCond ?_); refine yQ ?_))
    | ((with_reducible refine idO ?_); (with_reducible refine oM_gen fun Kv hK=>?_); simp [go_sem, hk.cells]; refine hK _ _ ?_; clear hK; clear Kv)))
    exact k _ hk.below
def RpdJ (g : Grp) (R : Int) (L : List (Addr × Value)) (ps : List (Int × Int)) (w0 : World) (l : List Value) (w' : World) : Prop := Kn w0 L w' ∧ ∃ (o : Int) (i : Nat), l = [.int .i64 o, .int .i64 (i : Int)] ∧ i ≤ ps.length ∧ prodL g o (ps.drop i) = R
def rpdMu (n : Nat) (l : List Value) (_ : World) : Nat := match l with | [_, .int _ i] => n - i.toNat | _ => 0
theorem rpdMu_eq (n : Nat) (x : Value) (q : IntKind) (i : Int) (w : World) : rpdMu n [x, .int q i] w = n - i.toNat := rfl
theorem rProduct_ok (g : Grp) {bv ev : Value} {bs es : List Int} (hbs : Ints w bv bs) (hes : Ints w ev es) (k : ∀ w', Below w.heap.size w w' → K (.tuple #[.int .i64 (prodG g bs es).1, .bool (prodG g bs es).2]) w') : callM Tryz.prog 155 #[grpV g, bv, ev] K w := by
  apply sh_155_ok
  unfold sh_155
  refine box_kn (cs := grpC g) rfl (.start w) fun b W hk hb1 hb => ?_
  obtain ⟨bad, bc, rfl⟩ := hbs.isSlice
  obtain ⟨ead, ec, rfl⟩ := hes.isSlice
  have l1 := hbs.len
  have l2 := hes.len
  unfold prodG at k
  repeat (any_goals ((with_reducible refine idO ?_); (with_reducible refine oM_gen fun Kv hK=>?_); simp [go_sem, hk.cells]; refine hK _ _ ?_; clear hK; clear Kv))
  refine rValid_ok g.P ?_
  by_cases hp : okN g.P
  · repeat (any_goals (first
    | (with_reducible ((refine idGd ?_); ((refine idGdN ?_); refine zO ?_)))
    | ((with_reducible refine idO ?_); (with_reducible refine oM_gen fun Kv hK=>?_); simp [go_sem, hk.cells]; refine hK _ _ ?_; clear hK; clear Kv)))
    refine rValid_ok g.Q ?_
    by_cases hq : okN g.Q
    · by_cases hl : bs.length = es.length
      · rw [if_pos ⟨hp, hq, hl⟩] at k
        have hp0 := hp.1
        have e1 : (1 : Int).tmod g.P = 1 % g.P := Int.tmod_eq_emod_of_nonneg (by omega)
        have hzl : (bs.zip es).length = bs.length := by rw [List.length_zip]; omega
        repeat (any_goals (first
        | (with_reducible first|refine pureM_in ?_|((refine idGd ?_); ((refine idGdN ?_); refine zO ?_))|((refine idPick ?_); refine yG ?_)|((refine idCond ?_); refine yM ?_))
        | ((with_reducible refine idO ?_); (with_reducible refine oM_gen fun Kv hK=>?_); simp [go_sem, hk.cells, hl, e1]; (first|refine hK _ _ ?_|refine And.intro (by omega) (hK _ _ ?_)); clear hK; clear Kv)))
        refine ⟨RpdJ g (prodL g (1 % g.P) (bs.zip es)) _ (bs.zip es) w, rpdMu es.length, ⟨hk, _, 0, rfl, by omega, rfl⟩, ?_⟩
        generalize prodL g (1 % g.P) (bs.zip es) = R at *
        rintro _ _ w1 ⟨hk, o, i, rfl, hi, he⟩
        rw [hzl] at hi
        by_cases hin : i = es.length
        · rw [List.drop_of_length_le (by omega)] at he
          unfold prodL at he
          repeat (any_goals (first
          | (with_reducible ((refine idCond ?_); refine yO ?_))
          | ((with_reducible refine idO ?_); (with_reducible refine oM_gen fun Kv hK=>?_); simp [go_sem]; refine hK _ _ ?_; clear hK; clear Kv)))
          rw [he]
          exact k _ hk.below
        · rw [zip_drop bs es i (by omega) (by omega)] at he
          unfold prodL at he
          obtain ⟨b1, o1, rfl, hb1, ca, ra, _⟩ := hbs.at (i := i) (by omega)
          obtain ⟨b2, o2, rfl, hb2, cb, rb, _⟩ := hes.at (i := i) (by omega)
          repeat (any_goals (first
          | (with_reducible ((refine idCond ?_); refine yN ?_))
          | ((with_reducible refine idO ?_); (with_reducible refine oM_gen fun Kv hK=>?_); simp [go_sem]; refine hK _ _ ?_; clear hK; clear Kv)))
          refine ⟨Kn w _, hk.drew, ?_⟩
          repeat (any_goals ((with_reducible refine idOQ ?_); (with_reducible refine oQ_of ⟨_, rfl⟩ (fun W0 hW0 => by (refine oM_gen (fun Kv hK => ?_)); simp [go_sem, hW0.cells, ca _ hW0.below, cb _ hW0.below]; (first | exact hK _ _ ⟨rfl, rfl⟩ | exact ⟨by omega, hK _ _ ⟨rfl, rfl⟩⟩)) ?_)))
          refine callQ_of (fun W0 hW0 => rPower_ok g _ _ (fun w' hw' => ⟨rfl, hW0.next hw'⟩)) ?_
          refine callQ_of (fun W0 hW0 => rMul_ok _ _ _ ⟨rfl, hW0⟩) ?_
          intro w2 hk
          repeat (any_goals ((with_reducible refine idO ?_); (with_reducible refine oM_gen fun Kv hK=>?_); simp [go_sem]; (try simp (disch := omega) only [wrapI64, wrapU8, wrapU32, wrapU64]); refine hK _ _ ?_; clear hK; clear Kv))
          refine ⟨⟨hk, _, i + 1, rfl, by rw [hzl]; omega, he⟩, ?_⟩
          simp only [rpdMu_eq]; omega
      · rw [if_neg (fun h => hl h.2.2)] at k
        have hl' : ¬ (bs.length : Int) = es.length := by omega
        repeat (any_goals (first
        | (with_reducible first|refine pureM_in ?_|((refine idGd ?_); ((refine idGdN ?_); refine zO ?_))|((refine idPick ?_); refine yG ?_)|((refine idCond ?_); refine yL ?_))
        | ((with_reducible refine idO ?_); (with_reducible refine oM_gen fun Kv hK=>?_); simp [go_sem, hk.cells, hl']; refine hK _ _ ?_; clear hK; clear Kv)))
        exact k _ hk.below
    · rw [if_neg (fun h => hq h.2.1)] at k
      repeat (any_goals (first
      | (with_reducible first|((refine idGd ?_); ((refine idGdN ?_); first|refine zO ?_|refine zP ?_))|((refine idPick ?_); first|refine yF ?_|refine yG ?_)|((refine idCond ?_); refine yL ?_))
      | ((with_reducible refine idO ?_); (with_reducible refine oM_gen fun Kv hK=>?_); simp [go_sem, hk.cells]; refine hK _ _ ?_; clear hK; clear Kv)))
      exact k _ hk.below
  · rw [if_neg (fun h => hp h.1)] at k
    repeat (any_goals (first
    | (with_reducible first|((refine idGd ?_); first|refine zD ?_|((refine idGdN ?_); refine zP ?_))|((refine idPick ?_); first|refine yB ?_|refine yF ?_)|((refine idCond ?_); refine yL ?_))
    | ((with_reducible refine idO ?_); (with_reducible refine oM_gen fun Kv hK=>?_); simp [go_sem, hk.cells]; refine hK _ _ ?_; clear hK; clear Kv)))
    exact k _ hk.below
theorem rother_ok (g : Grp) (x : Int) (hv : validG g = true) (k : ∀ w', Below w.heap.size w w' → K (.bool (otherM g x)) w') : callM Tryz.prog 156 #[grpV g, .int .i64 x] K w := by
  apply sh_156_ok
  unfold sh_156
  refine box_kn (cs := grpC g) rfl (.start w) fun b W hk hb1 hb => ?_
  unfold otherM at k
  by_cases hx : x = 1
  · have k := k _ hk.below
    repeat (any_goals (first
    | (with_reducible first|((refine idGd ?_); refine zB ?_)|((refine idPick ?_); refine yC ?_))
    | ((with_reducible refine idO ?_); (with_reducible refine oM_gen fun Kv hK=>?_); simp [go_sem, hk.cells, hx]; refine hK _ _ ?_; clear hK; clear Kv)))
    simpa [hx] using k
  · have hf := validG_facts hv
    have hq := hf.2.1.1
    have hq2 := hf.2.1.2
    repeat (any_goals (first
    | (with_reducible first|refine pureM_in ?_|((refine idGd ?_); refine zA ?_))
    | ((with_reducible refine idO ?_); (with_reducible refine oM_gen fun Kv hK=>?_); simp [go_sem, hk.cells, hx]; refine hK _ _ ?_; clear hK; clear Kv)))
    refine rMember_ok g x hf.1 ⟨by omega, by omega⟩ (fun w2 h => ?_)
    have k := k _ (hk.next h).below
    rw [elemG_eq hv] at k
    repeat (any_goals (with_reducible ((refine idPick ?_); refine yB ?_)))
    simpa [hx] using k
def RvsJ (s : Stp) (L : List (Addr × Value)) (R : Bool) (w0 : World) (l : List Value) (w' : World) : Prop := Kn w0 L w' ∧ ∃ (v : Value) (i : Nat), l = [v, .int .i64 (i : Int)] ∧ i ≤ s.bases.length ∧ (s.bases.drop i).all (otherM s.g) = R
theorem rValidSetup_ok (s : Stp) {v : Value} (hs : SetR w s v) (k : ∀ w', Below w.heap.size w w' → K (.bool (validS s)) w') : callM Tryz.prog 99 #[stpV s v] K w := by
  apply sh_99_ok
  unfold sh_99
  obtain ⟨ad, c, rfl⟩ := hs.ints.isSlice
  refine box_kn (cs := stpC s (.slice ad s.bases.length c)) rfl (.start w) fun b W hk hb1 hb => ?_
  have k2 : ∀ w' r, validS s = r → Below w.heap.size w w' → K (.bool r) w' := fun w' r e hb => by rw [← e]; exact k w' hb
  have e0 : validS s = (validG s.g && decide (2 ≤ s.bases.length) && decide (s.bases.length ≤ 7) && s.bases.all (otherM s.g) && otherM s.g s.blind) := rfl
  have hl := hs.ints.len
  clear k
  repeat (any_goals ((with_reducible refine idO ?_); (with_reducible refine oM_gen fun Kv hK=>?_); simp [go_sem, hk.cells]; refine hK _ _ ?_; clear hK; clear Kv))
  refine rValidGroup_ok s.g hs.grp (fun w1 h1 => ?_)
  have hk := hk.next h1
  clear h1 hb1
  cases hv : validG s.g with
  | false =>
    repeat (any_goals (first
    | (with_reducible first|((refine idGd ?_); refine zD ?_)|((refine idPick ?_); refine yB ?_)|((refine idCond ?_); refine yL ?_))
    | ((with_reducible refine idO ?_); (with_reducible refine oM_gen fun Kv hK=>?_); simp [go_sem]; refine hK _ _ ?_; clear hK; clear Kv)))
    exact k2 _ _ (by rw [e0, hv]; simp) hk.below
  | true =>
    repeat (any_goals (first
    | (with_reducible first|((refine idGd ?_); first|refine zC ?_|refine zD ?_|((refine idGdD ?_); first|refine zI ?_|refine zJ ?_|refine zK (fun hg=>?_) fun hg=>?_))|((refine idPick ?_); first|refine yB ?_|refine yC ?_|refine yD ?_|refine yE ?_)|((refine idCond ?_); refine yL ?_))
    | ((with_reducible refine idO ?_); (with_reducible refine oM_gen fun Kv hK=>?_); simp [go_sem, hk.cells]; refine hK _ _ ?_; clear hK; clear Kv)))
    · exact k2 _ _ (by rw [e0]; simp; omega) hk.below
    · exact k2 _ _ (by rw [e0]; simp; omega) hk.below
    refine rother_ok s.g s.blind hv (fun w3 h3 => ?_)
    have hk := hk.next h3
    have e1 : validS s = (s.bases.all (otherM s.g) && otherM s.g s.blind) := by
      rw [e0, hv, decide_eq_true (by omega : 2 ≤ s.bases.length), decide_eq_true (by omega : s.bases.length ≤ 7)]; rfl
    cases ho : otherM s.g s.blind with
    | false =>
      repeat (any_goals (first
      | (with_reducible first|((refine idGd ?_); ((refine idGdD ?_); refine zI ?_))|((refine idPick ?_); refine yE ?_)|((refine idCond ?_); refine yL ?_))
      | ((with_reducible refine idO ?_); (with_reducible refine oM_gen fun Kv hK=>?_); simp [go_sem, hk.cells]; refine hK _ _ ?_; clear hK; clear Kv)))
      exact k2 _ _ (by rw [e1, ho, Bool.and_false]) hk.below
    | true =>
    rw [ho, Bool.and_true] at e1
    repeat (any_goals (first
    | (with_reducible first|((refine idGd ?_); ((refine idGdD ?_); refine zI ?_))|((refine idPick ?_); refine yE ?_)|((refine idCond ?_); refine yM ?_))
    | ((with_reducible refine idO ?_); (with_reducible refine oM_gen fun Kv hK=>?_); simp [go_sem]; refine hK _ _ ?_; clear hK; clear Kv)))
    refine ⟨RvsJ s _ (s.bases.all (otherM s.g)) w, rpdMu s.bases.length, ⟨hk, _, 0, rfl, by omega, rfl⟩, ?_⟩
    rw [e1] at k2
    generalize s.bases.all (otherM s.g) = R at *
    rintro _ _ w2 ⟨hk, u1, i, rfl, hi, hall⟩
    by_cases hin : i = s.bases.length
    · rw [List.drop_of_length_le (by omega), List.all_nil] at hall
      repeat (any_goals (first
      | (with_reducible ((refine idCond ?_); refine yO ?_))
      | ((with_reducible refine idO ?_); (with_reducible refine oM_gen fun Kv hK=>?_); simp [go_sem, hk.cells]; refine hK _ _ ?_; clear hK; clear Kv)))
      exact k2 _ _ hall.symm hk.below
    · rw [List.drop_eq_getElem_cons (by omega), List.all_cons] at hall
      obtain ⟨b1, o1, rfl, hb1, ca, ra, _⟩ := hs.ints.at (i := i) (by omega)
      repeat (any_goals (first
      | (with_reducible ((refine idCond ?_); refine yN ?_))
      | ((with_reducible refine idO ?_); (with_reducible refine oM_gen fun Kv hK=>?_); simp [go_sem, hk.cells]; refine hK _ _ ?_; clear hK; clear Kv)))
      refine ⟨Kn w _, hk.drew, rfl, ?_⟩
      repeat (any_goals (first
      | (with_reducible refine pureH_in ?_)
      | ((with_reducible refine idOH ?_); (with_reducible refine oH_of ⟨_, rfl⟩ (fun W0 hW0 => by (refine oM_gen (fun Kv hK => ?_)); simp [go_sem, hW0.cells, ca _ hW0.below]; (first | exact hK _ _ ⟨rfl, rfl⟩ | exact ⟨by omega, hK _ _ ⟨rfl, rfl⟩⟩)) ?_))))
      refine ⟨Nx, fun w1 hk => ?_⟩
      refine rother_ok s.g _ hv (fun w3 h3 => ?_)
      have hk := hk.next h3
      refine ⟨hk, ?_⟩
      cases ho : otherM s.g s.bases[i] with
      | false =>
        rw [ho, Bool.false_and] at hall
        repeat (any_goals (first
        | (with_reducible refine And.intro hk ?_)
        | (with_reducible ((refine idCond ?_); refine yL ?_))
        | ((with_reducible refine idO ?_); (with_reducible refine oM_gen fun Kv hK=>?_); simp [go_sem]; refine hK _ _ ?_; clear hK; clear Kv)))
        exact k2 _ _ hall.symm hk.below
      | true =>
        rw [ho, Bool.true_and] at hall
        repeat (any_goals (first
        | (with_reducible refine And.intro hk ?_)
        | (with_reducible ((refine idCond ?_); refine yM ?_))
        | ((with_reducible refine idO ?_); (with_reducible refine oM_gen fun Kv hK=>?_); simp [go_sem]; (try simp (disch := omega) only [wrapI64, wrapU8, wrapU32, wrapU64]); refine hK _ _ ?_; clear hK; clear Kv)))
        refine ⟨⟨hk, _, i + 1, rfl, by omega, hall⟩, ?_⟩
        simp only [rpdMu_eq]; omega
end
end Go.Proofs
namespace Go.Proofs
open Go Go.Sh Go.RowKit ShaSpec
set_option linter.unusedSimpArgs false
set_option linter.unusedVariables false
set_option maxRecDepth 10000
section
variable {K : Value → World → Prop} {w w0 : World}
abbrev OwnW (w : World) (B : Nat) (v : Value) (l : List W) : Prop := w.ownsRow B 205 1 v l.length (ws l)
def WrdR (w : World) (v : Value) (l : List W) : Prop := ∃ ad c, v = .slice ad l.length c ∧ (l = [] ∨ ∃ b o, ad = some ⟨b, o, none⟩ ∧ b < w.heap.size ∧ ∀ i, i < l.length → w.cell? ⟨b, o + i, none⟩ = some (w32 (at' l i)))
theorem WrdR.next {w' : World} {v : Value} {l : List W} (h : WrdR w v l) (hb : Below w.heap.size w w') : WrdR w' v l := by
  obtain ⟨ad, c, rfl, h⟩ := h
  refine ⟨ad, c, rfl, h.imp id ?_⟩
  rintro ⟨b, o, rfl, hlt, hc⟩
  exact ⟨b, o, rfl, Nat.lt_of_lt_of_le hlt hb.size, fun i hi => by rw [hb.cell hlt]; exact hc i hi⟩
theorem WrdR.at {v : Value} {l : List W} (h : WrdR w v l) (hne : 0 < l.length) : ∃ b o c, v = .slice (some ⟨b, o, none⟩) l.length c ∧ ∀ w', Below w.heap.size w w' → ∀ i, i < l.length → w'.cell? ⟨b, o + i, none⟩ = some (w32 (at' l i)) := by
  obtain ⟨ad, c, rfl, h⟩ := h
  rcases h with rfl | ⟨b, o, rfl, hlt, hc⟩
  · simp at hne
  · exact ⟨b, o, c, rfl, fun w' hb i hi => by rw [hb.cell hlt]; exact hc i hi⟩
theorem OwnW.read {B : Nat} {v : Value} {l : List W} (h : OwnW w B v l) : WrdR w v l := by
  by_cases h0 : l = []
  · subst h0
    rcases h.2 with ⟨rfl, _⟩ | ⟨g, cap, cur, rfl, _⟩
    · exact ⟨none, 0, rfl, .inl rfl⟩
    · exact ⟨_, cap, rfl, .inl rfl⟩
  · obtain ⟨g, cap, cur, rfl, hlt, _, _, _, _, hc⟩ := owns_cells h (List.length_pos_iff.2 h0)
    refine ⟨_, cap, rfl, .inr ⟨g, 0, rfl, hlt, fun i hi => ?_⟩⟩
    rw [Nat.zero_add]
    exact hc i _ (by simp [ws, at', List.getD_eq_getElem?_getD, hi])
theorem OwnW.keep {B : Nat} {v : Value} {l : List W} {w' : World} (h : OwnW w B v l) (hb : Below w.heap.size w w') : OwnW w' B v l :=
  owns_keep h (fun i hi => hb.block i (owns_own h hi).1)
@[go_sem] theorem idx_w32 (T : TypeId) (b o n c : Nat) (x : Int) : oM Tryz.prog (.indexAddr 211 (.tmp 0) (.tmp 1)) T [.slice (some ⟨b, o, none⟩) n c, .int .i64 x] = onM (0 ≤ x ∧ x < n) (.pointer (some ⟨b, o + x.toNat, none⟩)) := by
  funext K w
  rw [oM_indexAddr, run_indexAt_slice (h := by kernel_rfl)]
  have hs : (sizeOf (Tryz.prog.elem 211)).run Tryz.prog w = .ok 1 w := by kernel_rfl
  by_cases hi : 0 ≤ x ∧ x < n
  · rw [if_pos hi, hs]
    simp only [Result.andThen, add_none, Nat.mul_one, rM_ok]
    exact propext ⟨fun h => ⟨hi, h⟩, fun h => h.2⟩
  · rw [if_neg hi]
    obtain ⟨e', w', he⟩ := halts Value Tryz.prog .i64 x n .index w
    rw [he]
    exact propext ⟨fun h => h.elim, fun h => hi h.1⟩
theorem mkW1 {T : TypeId} (x : W) (k : ∀ g W, Below w.heap.size w W → g < W.heap.size → W.cell? ⟨g, 0, none⟩ = some (w32 x) → K (.slice (some ⟨g, 0, none⟩) 1 1) W) : oM Tryz.prog (.buildSlice 211 1 #[(0, .tmp 0)]) T [w32 x] K w := by
  rw [oM_buildSlice1]
  have e : (Instr.buildSlice 211 1 #[(0, w32 x)]).run Tryz.prog w = .ok (.slice (some ⟨w.heap.size, 0, none⟩) 1 1) (w.alloc (.cells #[w32 x] 205)) := by kernel_rfl
  rw [e]
  refine k _ _ ((Below.refl _ w).alloc (Nat.le_refl _) _) (by simp) ?_
  have := World.cell?_alloc_at (w := w) #[w32 x] 205 w.heap.size 0 rfl
  rw [this]
  rfl
theorem appendW {B : Nat} {T : TypeId} {v : Value} {l : List W} {x : W} {g c : Nat} (ho : OwnW w B v l) (hB : B ≤ w.heap.size) (hx : w.cell? ⟨g, 0, none⟩ = some (w32 x)) (hl : l.length < 1099511627776)
    (k : ∀ v' w', OwnW w' B v' (l ++ [x]) → Below B w w' → K v' w') : oM Tryz.prog (.call { callee := .builtin .append, args := #[.tmp 0, .tmp 1], argTypes := #[211, 211] }) T [v, .slice (some ⟨g, 0, none⟩) 1 c] K w := by
  refine append_at 211 T 205 ((Tryz.prog.info? 205).getD default) (.int .u32 0) 1 4 (by kernel_rfl) (by kernel_rfl) (by kernel_rfl) (by kernel_rfl) (by kernel_rfl) (by kernel_rfl) (by omega) (owns_base ho (Nat.zero_le _)) [w32 x] (by simp) (by simp) ?_ ?_ (by simp only [maxLen]; omega) (by omega) ?_
  · rintro a ha j u hj
    cases ha
    match j, hj with
    | 0, hj =>
      simp only [List.getElem?_cons_zero, Option.some.injEq] at hj
      subst hj
      rw [add_none]; exact hx
  · intro u hu
    simp only [List.mem_singleton] at hu
    subst hu; rfl
  · intro v' w' ho' hg hv
    have hbl : ∀ i, v.ownBlock = some i → B ≤ i := fun i hi => (owns_own ho hi).2.1
    refine k v' w' ?_ ((Below.refl B w).grown hg hB hbl)
    have e2 : ws (l ++ [x]) = ws l ++ [w32 x] := by simp [ws]
    show w'.ownsRow B 205 1 v' (l ++ [x]).length (ws (l ++ [x]))
    rw [List.length_append, e2]
    exact owns_up ho' (fun i hi => (hv i hi).elim (hbl i) (fun h => Nat.le_trans hB h))
theorem turn_ok (x : W) (r : Nat) (h0 : 0 < r) (h1 : r < 32) (k : ∀ w', Below w.heap.size w w' → K (w32 (rotr x r)) w') : callM Tryz.prog 221 #[w32 x, .int .i64 (r : Int)] K w := by
  apply sh_221_ok
  unfold sh_221
  have s1 := fun t t' T => wshl (P := Tryz.prog) t t' T .i64 x (32 - r) (by omega)
  have s2 := fun t t' T => wshr (P := Tryz.prog) t t' T .i64 x r (by omega)
  have e1 : IntKind.i64.wrap (32 - (r : Int)) = ((32 - r : Nat) : Int) := by rw [wrapI64 _ (by omega) (by omega)]; omega
  obtain ⟨m, hm⟩ : ∃ m, m = 32 - r := ⟨_, rfl⟩
  rw [← hm] at e1 s1
  refine ⟨Nx w, .drawn, ?_⟩
  repeat (any_goals ((with_reducible refine idOQ ?_); (with_reducible refine oQ_of ⟨_, rfl⟩ (fun W0 hW0 => by (refine oM_gen (fun Kv hK => ?_)); simp [go_sem, e1, s1, s2, wor]; (first | exact hK _ _ ⟨rfl, rfl⟩ | exact ⟨by omega, hK _ _ ⟨rfl, rfl⟩⟩)) ?_)))
  intro w' hw'
  have k := k w' hw'
  unfold rotr at k
  rw [← hm] at k
  exact k
abbrev W' := BitVec 32
theorem tu6 {K : Value → World → Prop} {w : World} (x : W) (k : ∀ w', Below w.heap.size w w' → K (w32 (rotr x 6)) w') : callM Tryz.prog 221 #[w32 x, .int .i64 6] K w := turn_ok x 6 (by omega) (by omega) k
theorem tuQ6 {W : World} {KQ : Value → Prop} (x : W') (k : KQ (w32 (rotr x 6))) : callQ Tryz.prog 221 #[w32 x, .int .i64 6] (Nx W) KQ := callQ_of (v := w32 (rotr x 6)) (fun w hw => tu6 x (fun w' h => ⟨rfl, hw.on h⟩)) k
theorem tu11 {K : Value → World → Prop} {w : World} (x : W) (k : ∀ w', Below w.heap.size w w' → K (w32 (rotr x 11)) w') : callM Tryz.prog 221 #[w32 x, .int .i64 11] K w := turn_ok x 11 (by omega) (by omega) k
theorem tuQ11 {W : World} {KQ : Value → Prop} (x : W') (k : KQ (w32 (rotr x 11))) : callQ Tryz.prog 221 #[w32 x, .int .i64 11] (Nx W) KQ := callQ_of (v := w32 (rotr x 11)) (fun w hw => tu11 x (fun w' h => ⟨rfl, hw.on h⟩)) k
theorem tu25 {K : Value → World → Prop} {w : World} (x : W) (k : ∀ w', Below w.heap.size w w' → K (w32 (rotr x 25)) w') : callM Tryz.prog 221 #[w32 x, .int .i64 25] K w := turn_ok x 25 (by omega) (by omega) k
theorem tuQ25 {W : World} {KQ : Value → Prop} (x : W') (k : KQ (w32 (rotr x 25))) : callQ Tryz.prog 221 #[w32 x, .int .i64 25] (Nx W) KQ := callQ_of (v := w32 (rotr x 25)) (fun w hw => tu25 x (fun w' h => ⟨rfl, hw.on h⟩)) k
theorem tu2 {K : Value → World → Prop} {w : World} (x : W) (k : ∀ w', Below w.heap.size w w' → K (w32 (rotr x 2)) w') : callM Tryz.prog 221 #[w32 x, .int .i64 2] K w := turn_ok x 2 (by omega) (by omega) k
theorem tuQ2 {W : World} {KQ : Value → Prop} (x : W') (k : KQ (w32 (rotr x 2))) : callQ Tryz.prog 221 #[w32 x, .int .i64 2] (Nx W) KQ := callQ_of (v := w32 (rotr x 2)) (fun w hw => tu2 x (fun w' h => ⟨rfl, hw.on h⟩)) k
theorem tu13 {K : Value → World → Prop} {w : World} (x : W) (k : ∀ w', Below w.heap.size w w' → K (w32 (rotr x 13)) w') : callM Tryz.prog 221 #[w32 x, .int .i64 13] K w := turn_ok x 13 (by omega) (by omega) k
theorem tuQ13 {W : World} {KQ : Value → Prop} (x : W') (k : KQ (w32 (rotr x 13))) : callQ Tryz.prog 221 #[w32 x, .int .i64 13] (Nx W) KQ := callQ_of (v := w32 (rotr x 13)) (fun w hw => tu13 x (fun w' h => ⟨rfl, hw.on h⟩)) k
theorem tu22 {K : Value → World → Prop} {w : World} (x : W) (k : ∀ w', Below w.heap.size w w' → K (w32 (rotr x 22)) w') : callM Tryz.prog 221 #[w32 x, .int .i64 22] K w := turn_ok x 22 (by omega) (by omega) k
theorem tuQ22 {W : World} {KQ : Value → Prop} (x : W') (k : KQ (w32 (rotr x 22))) : callQ Tryz.prog 221 #[w32 x, .int .i64 22] (Nx W) KQ := callQ_of (v := w32 (rotr x 22)) (fun w hw => tu22 x (fun w' h => ⟨rfl, hw.on h⟩)) k
theorem tu7 {K : Value → World → Prop} {w : World} (x : W) (k : ∀ w', Below w.heap.size w w' → K (w32 (rotr x 7)) w') : callM Tryz.prog 221 #[w32 x, .int .i64 7] K w := turn_ok x 7 (by omega) (by omega) k
theorem tu18 {K : Value → World → Prop} {w : World} (x : W) (k : ∀ w', Below w.heap.size w w' → K (w32 (rotr x 18)) w') : callM Tryz.prog 221 #[w32 x, .int .i64 18] K w := turn_ok x 18 (by omega) (by omega) k
theorem tu17 {K : Value → World → Prop} {w : World} (x : W) (k : ∀ w', Below w.heap.size w w' → K (w32 (rotr x 17)) w') : callM Tryz.prog 221 #[w32 x, .int .i64 17] K w := turn_ok x 17 (by omega) (by omega) k
theorem tu19 {K : Value → World → Prop} {w : World} (x : W) (k : ∀ w', Below w.heap.size w w' → K (w32 (rotr x 19)) w') : callM Tryz.prog 221 #[w32 x, .int .i64 19] K w := turn_ok x 19 (by omega) (by omega) k
theorem row8 {T : TypeId} (s : St) (k : ∀ v W, Below w.heap.size w W → OwnW W w.heap.size v s.list → K v W) : oM Tryz.prog (.buildSlice 211 8 #[(0, (.tmp 0)), (1, (.tmp 1)), (2, (.tmp 2)), (3, (.tmp 3)), (4, (.tmp 4)), (5, (.tmp 5)), (6, (.tmp 6)), (7, (.tmp 7))]) T [w32 s.a, w32 s.b, w32 s.c, w32 s.d, w32 s.e, w32 s.f, w32 s.g, w32 s.h] K w := by
  rw [rM_of (S := Instr.buildSlice 211 8 (((List.range 8).zip (ws s.list))).toArray) (by kernel_rfl)]
  have e : (Instr.buildSlice 211 8 (((List.range 8).zip (ws s.list))).toArray).run Tryz.prog w = .ok (.slice (some ⟨w.heap.size, 0, none⟩) 8 8) (w.alloc (.cells (ws s.list).toArray 205)) := by kernel_rfl
  rw [e]
  refine k _ _ ((Below.refl _ w).alloc (Nat.le_refl _) _) ⟨by simp, .inr ⟨w.heap.size, 8, _, rfl, Nat.le_refl _, heap_alloc_new w _, Nat.le_refl _, by decide, rfl, ?_⟩⟩
  rw [List.take_of_length_le (by simp [St.list])]
theorem firsts_ok (k : ∀ v W, Below w.heap.size w W → OwnW W w.heap.size v first.list → K v W) : callM Tryz.prog 199 #[] K w := by
  apply sh_199_ok
  unfold sh_199
  exact row8 first k
theorem adds_ok (k : ∀ v W, Below w.heap.size w W → WrdR W v consts → K v W) : callM Tryz.prog 220 #[] K w := by
  apply sh_220_ok
  unfold sh_220
  have e0 : ∀ K w, oM Tryz.prog (Go.Op.buildSlice 211 64 ((List.range 64).map fun i => (i, Operand.tmp i)).toArray) 211 (ws consts) K w = K (.slice (some ⟨w.heap.size, 0, none⟩) 64 64) (w.alloc (.cells (ws consts).toArray 205)) := by
    intro K w
    kernel_rfl
  refine (e0 _ w).symm ▸ ?_
  refine k _ _ ((Below.refl _ w).alloc (Nat.le_refl _) _) ⟨_, 64, rfl, .inr ⟨w.heap.size, 0, rfl, by simp, fun i hi => ?_⟩⟩
  rw [Nat.zero_add]
  have := World.cell?_alloc_at (w := w) (ws consts).toArray 205 w.heap.size i rfl
  rw [this]
  simp [ws, at', List.getD_eq_getElem?_getD, hi]
end
end Go.Proofs
namespace Go.Proofs
open Go Go.Sh Go.RowKit ShaSpec
set_option linter.unusedSimpArgs false
set_option linter.unusedVariables false
set_option maxRecDepth 10000
section
variable {K : Value → World → Prop} {w w0 : World}
def WoJ (w0 : World) (b : List UInt8) (l : List Value) (w' : World) : Prop := ∃ (v : Value) (i : Nat), l = [v, .int .i64 (i : Int)] ∧ i ≤ 16 ∧ OwnW w' w0.heap.size v (sched b i) ∧ Below w0.heap.size w0 w'
def woMu (n : Nat) (l : List Value) (_ : World) : Nat := match l with | [_, .int _ i] => n - i.toNat | _ => 0
theorem woMu_eq (n : Nat) (x : Value) (q : IntKind) (i : Int) (w : World) : woMu n [x, .int q i] w = n - i.toNat := rfl
def Wo2J (w0 : World) (b : List UInt8) (l : List Value) (w' : World) : Prop := ∃ (v1 v2 v3 v4 v : Value) (i : Nat), l = [v1, v2, v3, v4, v, .int .i64 (i : Int)] ∧ 16 ≤ i ∧ i ≤ 64 ∧ OwnW w' w0.heap.size v (sched b i) ∧ Below w0.heap.size w0 w'
def One (x : W) (v : Value) (w' : World) : Prop := ∃ g, v = .slice (some ⟨g, 0, none⟩) 1 1 ∧ g < w'.heap.size ∧ w'.cell? ⟨g, 0, none⟩ = some (w32 x)
theorem One.next {x : W} {v : Value} {w w' : World} (h : One x v w) (hb : Nx w w') : One x v w' := by
  obtain ⟨g, rfl, hlt, hc⟩ := h
  exact ⟨g, rfl, Nat.lt_of_lt_of_le hlt hb.size, by rw [hb.cell hlt]; exact hc⟩
theorem words_ok (b : List UInt8) {B o c : Nat} (hl : b.length = 64) (hb : ByR w B o b) (k : ∀ v W, Below w.heap.size w W → WrdR W v (sched b 64) → K v W) : callM Tryz.prog 219 #[.slice (some ⟨B, o, none⟩) 64 c] K w := by
  apply sh_219_ok
  unfold sh_219
  refine ⟨WoJ w b, woMu 16, ⟨_, 0, rfl, by omega, ⟨rfl, .inl ⟨rfl, rfl⟩⟩, Below.refl _ _⟩, ?_⟩
  rintro _ _ w1 ⟨v, i, rfl, hi, ho, hB⟩
  by_cases h16 : i < 16
  · repeat (any_goals (first
    | (with_reducible ((refine idCond ?_); refine yN ?_))
    | ((with_reducible refine idO ?_); (with_reducible refine oM_gen fun Kv hK=>?_); simp [go_sem]; refine hK _ _ ?_; clear hK; clear Kv)))
    have ho := ho.keep (.drawn (B := w1.heap.size))
    have hB := hB.on (.drawn (B := w1.heap.size))
    refine ⟨Nx { w1 with drawn := w1.drawn + 1 }, Below.refl _ _, rfl, ?_⟩
    generalize ({ w1 with drawn := w1.drawn + 1 } : World) = w2 at ho hB ⊢
    have cb : ∀ j, j < 64 → ∀ w', Nx w2 w' → w'.cell? ⟨B, o + j, none⟩ = some (.int .u8 ((b.getD j 0).toNat : Int)) := fun j hj w' hw => (hb.next (hB.on hw)).2 j (by omega)
    have t1 : (4 * (i : Int)).toNat = 4 * i := by omega
    have t2 : (4 * (i : Int) + 1).toNat = 4 * i + 1 := by omega
    have t3 : (4 * (i : Int) + 2).toNat = 4 * i + 2 := by omega
    have t4 : (4 * (i : Int) + 3).toNat = 4 * i + 3 := by omega
    have c1 := cb (4 * i) (by omega)
    have c2 := cb (4 * i + 1) (by omega)
    have c3 := cb (4 * i + 2) (by omega)
    have c4 := cb (4 * i + 3) (by omega)
    have q1 : IntKind.i64.wrap (4 * (i : Int)) = 4 * i := wrapI64 _ (by omega) (by omega)
    have q2 : IntKind.i64.wrap (4 * (i : Int) + 1) = 4 * i + 1 := wrapI64 _ (by omega) (by omega)
    have q3 : IntKind.i64.wrap (4 * (i : Int) + 2) = 4 * i + 2 := wrapI64 _ (by omega) (by omega)
    have q4 : IntKind.i64.wrap (4 * (i : Int) + 3) = 4 * i + 3 := wrapI64 _ (by omega) (by omega)
    repeat (any_goals (first
    | (with_reducible refine pureH_in ?_)
    | ((with_reducible refine idOH ?_); (with_reducible refine oH_of ⟨_, rfl⟩ (fun W0 hW0 => by (refine oM_gen (fun Kv hK => ?_)); simp [go_sem, q1, q2, q3, q4, t1, t2, t3, t4, c1 _ hW0, c2 _ hW0, c3 _ hW0, c4 _ hW0, conv_u8, shl24, shl16, shl8, wor]; (first | exact hK _ _ ⟨rfl, rfl⟩ | exact ⟨by omega, hK _ _ ⟨rfl, rfl⟩⟩)) ?_))))
    have en : nextW b (sched b i) i = w8 (b[4 * i]?.getD 0) <<< 24 ||| w8 (b[4 * i + 1]?.getD 0) <<< 16 ||| w8 (b[4 * i + 2]?.getD 0) <<< 8 ||| w8 (b[4 * i + 3]?.getD 0) := by
      unfold nextW word
      rw [if_pos h16]
      simp only [List.getD_eq_getElem?_getD]
    rw [← en]
    refine ⟨Nx, monoR (One (nextW b (sched b i) i)) (fun v w w1 hS h => h.next hS) ?_ ?_⟩
    · intro w3 h3
      exact mkW1 _ (fun g w4 h4 hlt hc => ⟨h3.on h4, h4, g, rfl, hlt, hc⟩)
    rintro w3 h3 _ ⟨g, rfl, hlt, hc⟩
    refine appendW (ho.keep h3) (hB.on h3).size hc (by rw [sched_length]; omega) (fun v' w4 ho4 hb4 => ?_)
    repeat (any_goals ((with_reducible refine idO ?_); (with_reducible refine oM_gen fun Kv hK=>?_); simp [go_sem]; (try simp (disch := omega) only [wrapI64, wrapU8, wrapU32, wrapU64]); refine hK _ _ ?_; clear hK; clear Kv))
    refine ⟨⟨_, i + 1, rfl, h16, ho4, (hB.on h3).trans hb4⟩, ?_⟩
    simp only [woMu_eq]; omega
  · obtain rfl : i = 16 := by omega
    repeat (any_goals (first
    | (with_reducible ((refine idCond ?_); refine yM ?_))
    | ((with_reducible refine idO ?_); (with_reducible refine oM_gen fun Kv hK=>?_); simp [go_sem]; refine hK _ _ ?_; clear hK; clear Kv)))
    refine ⟨Wo2J w b, schMu, ⟨_, _, _, _, _, 16, rfl, by omega, by omega, ho, hB⟩, ?_⟩
    clear ho hB v
    rintro _ _ w1 ⟨v1, v2, v3, v4, v, i, rfl, hi1, hi, ho, hB⟩
    by_cases hi64 : i < 64
    · obtain ⟨g, og, cg, rfl, hr⟩ := ho.read.at (by rw [sched_length]; omega)
      rw [sched_length] at *
      have t1 : ((i : Int) - 15).toNat = i - 15 := by omega
      have t2 : ((i : Int) - 2).toNat = i - 2 := by omega
      have t3 : ((i : Int) - 16).toNat = i - 16 := by omega
      have t4 : ((i : Int) - 7).toNat = i - 7 := by omega
      have q3 : IntKind.i64.wrap ((i : Int) - 16) = (i : Int) - 16 := wrapI64 _ (by omega) (by omega)
      have q4 : IntKind.i64.wrap ((i : Int) - 7) = (i : Int) - 7 := wrapI64 _ (by omega) (by omega)
      have hz := Below.refl w1.heap.size w1
      repeat (any_goals (first
      | (with_reducible ((refine idCond ?_); refine yN ?_))
      | ((with_reducible refine idO ?_); (with_reducible refine oM_gen fun Kv hK=>?_); simp [go_sem, t1, t2, hr _ hz (i - 15) (by omega), hr _ hz (i - 2) (by omega)]; (try simp (disch := omega) only [wrapI64, wrapU8, wrapU32, wrapU64]); (first|refine hK _ _ ?_|refine And.intro (by omega) (hK _ _ ?_)); clear hK; clear Kv)))
      refine tu7 _ (fun w2 h2 => ?_)
      refine tu18 _ (fun w3 h3 => ?_)
      repeat (any_goals ((with_reducible refine idO ?_); (with_reducible refine oM_gen fun Kv hK=>?_); simp [go_sem, shr3, wxor]; refine hK _ _ ?_; clear hK; clear Kv))
      refine tu17 _ (fun w4 h4 => ?_)
      refine tu19 _ (fun w5 h5 => ?_)
      repeat (any_goals ((with_reducible refine idO ?_); (with_reducible refine oM_gen fun Kv hK=>?_); simp [go_sem, shr10, wxor]; refine hK _ _ ?_; clear hK; clear Kv))
      have h5 := (((h2.on h3).on h4).on h5).on (.drawn (B := w5.heap.size))
      clear h2 h3 h4 hz
      refine ⟨Nx { w5 with drawn := w5.drawn + 1 }, Below.refl _ _, rfl, ?_⟩
      generalize ({ w5 with drawn := w5.drawn + 1 } : World) = w6 at h5 ⊢
      repeat (any_goals (first
      | (with_reducible refine pureH_in ?_)
      | ((with_reducible refine idOH ?_); (with_reducible refine oH_of ⟨_, rfl⟩ (fun W0 hW0 => by (refine oM_gen (fun Kv hK => ?_)); simp [go_sem, q3, q4, t3, t4, hr _ (h5.on hW0) (i - 16) (by omega), hr _ (h5.on hW0) (i - 7) (by omega), wadd]; (first | exact hK _ _ ⟨rfl, rfl⟩ | exact ⟨by omega, hK _ _ ⟨rfl, rfl⟩⟩)) ?_))))
      have en : nextW b (sched b i) i = at' (sched b i) (i - 16) + sig0 (at' (sched b i) (i - 15)) + at' (sched b i) (i - 7) + sig1 (at' (sched b i) (i - 2)) := by
        unfold nextW
        rw [if_neg (by omega)]
      unfold sig0 sig1 at en
      rw [← en]
      refine ⟨Nx, monoR (One (nextW b (sched b i) i)) (fun v w w1 hS h => h.next hS) ?_ ?_⟩
      · intro w3 h3
        exact mkW1 _ (fun g w4 h4 hlt hc => ⟨h3.on h4, h4, g, rfl, hlt, hc⟩)
      rintro w3 h3 _ ⟨g2, rfl, hlt, hc⟩
      have h3 := h5.on h3
      refine appendW (ho.keep h3) (hB.on h3).size hc (by rw [sched_length]; omega) (fun v' w4 ho4 hb4 => ?_)
      repeat (any_goals ((with_reducible refine idO ?_); (with_reducible refine oM_gen fun Kv hK=>?_); simp [go_sem]; (try simp (disch := omega) only [wrapI64, wrapU8, wrapU32, wrapU64]); refine hK _ _ ?_; clear hK; clear Kv))
      refine ⟨⟨_, _, _, _, _, i + 1, rfl, by omega, hi64, ho4, (hB.on h3).trans hb4⟩, ?_⟩
      simp only [schMu_eq]; omega
    · obtain rfl : i = 64 := by omega
      repeat (any_goals (first
      | (with_reducible ((refine idCond ?_); refine yM ?_))
      | ((with_reducible refine idO ?_); (with_reducible refine oM_gen fun Kv hK=>?_); simp [go_sem]; refine hK _ _ ?_; clear hK; clear Kv)))
      exact k _ _ hB ho.read
end
end Go.Proofs
namespace Go.Proofs
open Go Go.Sh Go.RowKit ShaSpec
set_option linter.unusedSimpArgs false
set_option linter.unusedVariables false
set_option maxRecDepth 10000
section
variable {K : Value → World → Prop} {w w0 : World}
theorem mkW0 {T : TypeId} (k : ∀ v W, Below w.heap.size w W → OwnW W w.heap.size v [] → K v W) : oM Tryz.prog (.buildSlice 211 0 #[]) T [] K w := by
  rw [oM_buildSlice0]
  have e : (Instr.buildSlice 211 0 #[]).run Tryz.prog w = .ok (.slice (some ⟨w.heap.size, 0, none⟩) 0 0) (w.alloc (.cells #[] 205)) := by kernel_rfl
  rw [e]
  exact k _ _ ((Below.refl _ w).alloc (Nat.le_refl _) _) ⟨rfl, .inr ⟨w.heap.size, 0, #[], rfl, Nat.le_refl _, heap_alloc_new w _, Nat.le_refl _, by decide, rfl, rfl⟩⟩
theorem appendRow {B : Nat} {T : TypeId} {v hv : Value} {l m : List W} (ho : OwnW w B v l) (hB : B ≤ w.heap.size) (hx : WrdR w hv m) (hne : 0 < m.length) (hl : l.length + m.length < 1099511627776)
    (k : ∀ v' w', OwnW w' B v' (l ++ m) → Below B w w' → K v' w') : oM Tryz.prog (.call { callee := .builtin .append, args := #[.tmp 0, .tmp 1], argTypes := #[211, 211] }) T [v, hv] K w := by
  obtain ⟨ad, c, rfl, hm⟩ := hx
  obtain ⟨b, o, rfl, hlt, hc⟩ := hm.resolve_left (fun h0 => by subst h0; simp at hne)
  refine append_at 211 T 205 ((Tryz.prog.info? 205).getD default) (.int .u32 0) 1 4 (by kernel_rfl) (by kernel_rfl) (by kernel_rfl) (by kernel_rfl) (by kernel_rfl) (by kernel_rfl) (by omega) (owns_base ho (Nat.zero_le _)) (ws m) (by simp) (by simp) ?_ ?_ (by simp only [maxLen]; omega) (by omega) ?_
  · rintro a ha j u hj
    cases ha
    have hjl : j < m.length := by have := (List.getElem?_eq_some_iff.1 hj).1; simpa using this
    rw [add_none, hc j hjl, ← hj]
    simp [ws, at', List.getD_eq_getElem?_getD, hjl]
  · exact ws_one m
  · intro v' w' ho' hg hv
    have hbl : ∀ i, v.ownBlock = some i → B ≤ i := fun i hi => (owns_own ho hi).2.1
    refine k v' w' ?_ ((Below.refl B w).grown hg hB hbl)
    have e2 : ws (l ++ m) = ws l ++ ws m := by simp [ws]
    show w'.ownsRow B 205 1 v' (l ++ m).length (ws (l ++ m))
    rw [List.length_append, e2]
    exact owns_up ho' (fun i hi => (hv i hi).elim (hbl i) (fun h => Nat.le_trans hB h))
theorem setW {B i : Nat} {T : TypeId} {v : Value} {l : List W} (x : W) (ho : OwnW w B v l) (hi : i < l.length) : ∃ g c, v = .slice (some ⟨g, 0, none⟩) l.length c ∧ B ≤ g ∧ ∀ K : Value → World → Prop, (∀ w', w.grownBy w' (some g) → OwnW w' B v (l.set i x) → K undef w') →
    oM Tryz.prog (.store 205 (.tmp 0) (.tmp 1)) T [ptr g i, w32 x] K w := by
  rcases ho.2 with ⟨_, h0⟩ | ⟨g, cap, cur, rfl, hb, hg, hn, hm, hs, ht⟩
  · omega
  · refine ⟨g, cap, rfl, hb, fun K k => ?_⟩
    have hh : Holds w g 205 cur.toList := by unfold Holds; simpa using hg
    have hcl : cur.toList.length = cap := by simpa using hs
    refine arr_set (i := i) sz_u32 rfl rfl hh (by omega) (fun w' hgr hh' => k w' hgr ⟨by simp, .inr ⟨g, cap, (cur.toList.set i (w32 x)).toArray, by rw [List.length_set], hb, hh', by rw [List.length_set]; exact hn, hm, by simp; omega, ?_⟩⟩)
    rw [List.length_set]
    rw [Nat.mul_one] at ht ⊢
    simp only [List.take_set, ht]
    unfold ws
    rw [List.map_set]
def RdJ (w0 : World) (b : List UInt8) (s : St) (l : List Value) (w' : World) : Prop := ∃ (v1 v2 v3 v4 v5 v : Value) (i : Nat), l = [v1, v2, v3, v4, v5, v, .int .i64 (i : Int)] ∧ i ≤ 64 ∧ OwnW w' w0.heap.size v (rounds b s i).list ∧ Below w0.heap.size w0 w'
def rdMu (l : List Value) (_ : World) : Nat := match l with | [_, _, _, _, _, _, .int _ i] => 64 - i.toNat | _ => 0
theorem rdMu_eq (a b c d e f : Value) (q : IntKind) (i : Int) (w : World) : rdMu [a, b, c, d, e, f, .int q i] w = 64 - i.toNat := rfl
theorem words_ok' (b : List UInt8) {B o c : Nat} (hl : b.length = 64) (hb : ByR w B o b) (k : ∀ sl v W, sl = sched b 64 → Below w.heap.size w W → WrdR W v sl → K v W) : callM Tryz.prog 219 #[.slice (some ⟨B, o, none⟩) 64 c] K w :=
  words_ok b hl hb fun v W h1 h2 => k _ v W rfl h1 h2
theorem not32 {P : Program} (t T : TypeId) (x : W) : oM P (.unOp .xor t (.tmp 0)) T [w32 x] = pureM (w32 (~~~ x)) := by
  funext K w
  have e : bits .xor .u32 4294967295 (x.toNat : Int) = ((~~~ x).toNat : Int) := by
    have := bits32_xor (BitVec.allOnes 32) x
    rw [BitVec.allOnes_xor] at this
    exact this
  unfold w32
  rw [← e]
  simp [oM, opM, xop, execOp, evalL, evE, Op.unary, go_sem]
  exact Iff.rfl
theorem block_ok (s : St) (b : List UInt8) {hv : Value} {B o c : Nat} (hl : b.length = 64) (hb : ByR w B o b) (hs : WrdR w hv s.list) (k : ∀ v W, Below w.heap.size w W → OwnW W w.heap.size v (mix s b).list → K v W) : callM Tryz.prog 200 #[hv, .slice (some ⟨B, o, none⟩) 64 c] K w := by
  apply sh_200_ok
  unfold sh_200
  refine words_ok' b hl hb fun sl v1 w1 hsl h1 hw1 => ?_
  refine adds_ok fun v2 w2 h2 hw2 => ?_
  refine mkW0 fun v3 w3 h3 ho3 => ?_
  have hl64 : sl.length = 64 := by rw [hsl]; exact sched_length b 64
  have hA : Nx w w2 := h1.on h2
  refine appendRow ho3 h3.size ((hs.next hA).next h3) (show 0 < 8 by decide) (by show 0 + 8 < _; omega) (fun v4 w4 ho5 h4 => ?_)
  have ho4 : OwnW w4 w2.heap.size v4 s.list := ho5
  have hB4 : Nx w2 w4 := h3.trans h4
  obtain ⟨bs, os, cs, rfl, hsr⟩ := (hw1.next h2).at (by omega)
  obtain ⟨bk, ok, ck, rfl, hkr⟩ := hw2.at (by rw [consts_length]; omega)
  obtain ⟨bh, oh, chh, rfl, hhr⟩ := (hs.next hA).at (show 0 < 8 by decide)
  refine ⟨RdJ w2 b s, rdMu, ⟨_, _, _, _, _, _, 0, rfl, by omega, ho4, hB4⟩, ?_⟩
  clear hB4 ho4 ho5 h4 ho3 h3 w4 w3
  rintro _ _ w5 ⟨u1, u2, u3, u4, u5, v, i, rfl, hi, ho, hB⟩
  rw [consts_length, hl64] at *
  by_cases hi64 : i < 64
  · have e1 : rounds b s (i + 1) = round (rounds b s i) (at' consts i) (at' sl i) := by rw [hsl]; rfl
    have kk := fun w' (h : Nx w5 w') => hkr w' (hB.on h) i hi64
    have ks := fun w' (h : Nx w5 w') => hsr w' (hB.on h) i hi64
    obtain ⟨q, hq⟩ : ∃ q, q = rounds b s i := ⟨_, rfl⟩
    rw [← hq] at e1 ho
    obtain ⟨bv, ov, cv, rfl, hvr⟩ := ho.read.at (show 0 < 8 by decide)
    have c0 : ∀ w', Nx w5 w' → w'.cell? ⟨bv, ov, none⟩ = some (w32 q.a) := fun w' h => hvr w' h 0 (show 0 < 8 by decide)
    have c1 : ∀ w', Nx w5 w' → w'.cell? ⟨bv, ov + 1, none⟩ = some (w32 q.b) := fun w' h => hvr w' h 1 (show 1 < 8 by decide)
    have c2 : ∀ w', Nx w5 w' → w'.cell? ⟨bv, ov + 2, none⟩ = some (w32 q.c) := fun w' h => hvr w' h 2 (show 2 < 8 by decide)
    have c3 : ∀ w', Nx w5 w' → w'.cell? ⟨bv, ov + 3, none⟩ = some (w32 q.d) := fun w' h => hvr w' h 3 (show 3 < 8 by decide)
    have c4 : ∀ w', Nx w5 w' → w'.cell? ⟨bv, ov + 4, none⟩ = some (w32 q.e) := fun w' h => hvr w' h 4 (show 4 < 8 by decide)
    have c5 : ∀ w', Nx w5 w' → w'.cell? ⟨bv, ov + 5, none⟩ = some (w32 q.f) := fun w' h => hvr w' h 5 (show 5 < 8 by decide)
    have c6 : ∀ w', Nx w5 w' → w'.cell? ⟨bv, ov + 6, none⟩ = some (w32 q.g) := fun w' h => hvr w' h 6 (show 6 < 8 by decide)
    have c7 : ∀ w', Nx w5 w' → w'.cell? ⟨bv, ov + 7, none⟩ = some (w32 q.h) := fun w' h => hvr w' h 7 (show 7 < 8 by decide)
    have l8 : q.list.length = 8 := rfl
    rw [l8] at *
    repeat (any_goals (first
    | (with_reducible ((refine idCond ?_); refine yN ?_))
    | ((with_reducible refine idO ?_); (with_reducible refine oM_gen fun Kv hK=>?_); simp [go_sem]; refine hK _ _ ?_; clear hK; clear Kv)))
    refine ⟨Nx w5, .drawn, ?_⟩
    repeat (any_goals (first
    | (with_reducible refine tuQ6 _ ?_) | (with_reducible refine tuQ11 _ ?_) | (with_reducible refine tuQ25 _ ?_) | (with_reducible refine tuQ2 _ ?_) | (with_reducible refine tuQ13 _ ?_) | (with_reducible refine tuQ22 _ ?_)
    | ((with_reducible refine idOQ ?_); (with_reducible refine oQ_of ⟨_, rfl⟩ (fun W0 hW0 => by (refine oM_gen (fun Kv hK => ?_)); simp [go_sem, c4 _ hW0, wxor]; (first | exact hK _ _ ⟨rfl, rfl⟩ | exact ⟨by omega, hK _ _ ⟨rfl, rfl⟩⟩)) ?_))))
    intro w6 h6
    refine ⟨Nx w5, h6.on .drawn, ?_⟩
    clear h6 w6
    repeat (any_goals ((with_reducible refine idOQ ?_); (with_reducible refine oQ_of ⟨_, rfl⟩ (fun W0 hW0 => by (refine oM_gen (fun Kv hK => ?_)); simp [go_sem, c4 _ hW0, c5 _ hW0, c6 _ hW0, wxor, wand, not32, ch_eq]; (first | exact hK _ _ ⟨rfl, rfl⟩ | exact ⟨by omega, hK _ _ ⟨rfl, rfl⟩⟩)) ?_)))
    intro w6 h6
    refine ⟨Nx w5, h6.on .drawn, ?_⟩
    clear h6 w6
    repeat (any_goals ((with_reducible refine idOQ ?_); (with_reducible refine oQ_of ⟨_, rfl⟩ (fun W0 hW0 => by (refine oM_gen (fun Kv hK => ?_)); simp [go_sem, c7 _ hW0, kk _ hW0, ks _ hW0, wadd]; (first | exact hK _ _ ⟨rfl, rfl⟩ | exact ⟨by omega, hK _ _ ⟨rfl, rfl⟩⟩)) ?_)))
    intro w6 h6
    refine ⟨Nx w5, h6.on .drawn, ?_⟩
    clear h6 w6
    repeat (any_goals (first
    | (with_reducible refine tuQ6 _ ?_) | (with_reducible refine tuQ11 _ ?_) | (with_reducible refine tuQ25 _ ?_) | (with_reducible refine tuQ2 _ ?_) | (with_reducible refine tuQ13 _ ?_) | (with_reducible refine tuQ22 _ ?_)
    | ((with_reducible refine idOQ ?_); (with_reducible refine oQ_of ⟨_, rfl⟩ (fun W0 hW0 => by (refine oM_gen (fun Kv hK => ?_)); simp [go_sem, c0 _ hW0, wxor]; (first | exact hK _ _ ⟨rfl, rfl⟩ | exact ⟨by omega, hK _ _ ⟨rfl, rfl⟩⟩)) ?_))))
    intro w6 h6
    refine ⟨Nx w5, h6.on .drawn, ?_⟩
    clear h6 w6
    repeat (any_goals ((with_reducible refine idOQ ?_); (with_reducible refine oQ_of ⟨_, rfl⟩ (fun W0 hW0 => by (refine oM_gen (fun Kv hK => ?_)); simp [go_sem, c0 _ hW0, c1 _ hW0, c2 _ hW0, wxor, wand, maj_eq]; (first | exact hK _ _ ⟨rfl, rfl⟩ | exact ⟨by omega, hK _ _ ⟨rfl, rfl⟩⟩)) ?_)))
    intro w6 h6
    refine ⟨Nx w5, h6.on .drawn, rfl, ?_⟩
    clear h6 w6
    repeat (any_goals (first
    | (with_reducible refine pureH_in ?_)
    | ((with_reducible refine idOH ?_); (with_reducible refine oH_of ⟨_, rfl⟩ (fun W0 hW0 => by (refine oM_gen (fun Kv hK => ?_)); simp [go_sem, c0 _ hW0, c1 _ hW0, c2 _ hW0, c3 _ hW0, c4 _ hW0, c5 _ hW0, c6 _ hW0, wadd]; (first | exact hK _ _ ⟨rfl, rfl⟩ | exact ⟨by omega, hK _ _ ⟨rfl, rfl⟩⟩)) ?_))))
    refine ⟨Nx, fun w6 h6 => ?_⟩
    refine row8 (round q (at' consts i) (at' sl i)) (fun v6 w7 h7 ho7 => ?_)
    rw [← e1] at ho7
    have h67 := (hB.on h6)
    repeat (any_goals ((with_reducible refine idO ?_); (with_reducible refine oM_gen fun Kv hK=>?_); simp [go_sem]; (try simp (disch := omega) only [wrapI64, wrapU8, wrapU32, wrapU64]); refine hK _ _ ?_; clear hK; clear Kv))
    refine ⟨⟨_, _, _, _, _, _, i + 1, rfl, hi64, owns_base ho7 h67.size, h67.on h7⟩, ?_⟩
    simp only [rdMu_eq]; omega
  · obtain rfl : i = 64 := by omega
    have em : (mix s b).list = adL (rounds b s 64) s 8 := rfl
    rw [em] at k
    have ho : OwnW w5 w2.heap.size v (adL (rounds b s 64) s 0) := ho
    clear em
    generalize rounds b s 64 = q at *
    obtain ⟨g, cap, cur, rfl, hlt, hbg, _⟩ := owns_cells ho (show 0 < 8 by decide)
    repeat (any_goals (first
    | (with_reducible ((refine idCond ?_); refine yM ?_))
    | ((with_reducible refine idO ?_); (with_reducible refine oM_gen fun Kv hK=>?_); simp [go_sem]; refine hK _ _ ?_; clear hK; clear Kv)))
    refine ⟨fun l w' => ∃ j : Nat, l = [.int .i64 (j : Int)] ∧ j ≤ 8 ∧ OwnW w' w2.heap.size (.slice (some ⟨g, 0, none⟩) 8 cap) (adL q s j) ∧ Nx w2 w', fun l _ => match l with | [.int _ j] => 8 - j.toNat | _ => 0, ⟨0, rfl, by omega, ho, hB⟩, ?_⟩
    clear ho hB hlt
    rintro _ _ w6 ⟨j, rfl, hj, ho, hB⟩
    by_cases hj8 : j < 8
    · have h8 := adL_length q s j
      repeat (any_goals (first
      | (with_reducible ((refine idCond ?_); refine yN ?_))
      | ((with_reducible refine idO ?_); (with_reducible refine oM_gen fun Kv hK=>?_); simp [go_sem]; refine hK _ _ ?_; clear hK; clear Kv)))
      have hB := hB.on (.drawn (B := w6.heap.size))
      have ho := ho.keep (.drawn (B := w6.heap.size))
      refine ⟨Nx { w6 with drawn := w6.drawn + 1 }, Below.refl _ _, rfl, ?_⟩
      generalize ({ w6 with drawn := w6.drawn + 1 } : World) = w7 at ho hB ⊢
      obtain ⟨bv, ov, cv, hv, hvr⟩ := ho.read.at (by omega)
      rw [h8] at hv hvr
      cases hv
      have cv := fun w' h => hvr w' h j hj8
      have ch := fun w' (h : Nx w7 w') => hhr w' (hB.on h) j hj8
      rw [adL_at q s hj8] at cv
      simp only [Nat.zero_add] at cv
      have hs8 : s.list.length = 8 := rfl
      repeat (any_goals (first
      | (with_reducible refine pureH_in ?_)
      | ((with_reducible refine idOH ?_); (with_reducible refine oH_of ⟨_, rfl⟩ (fun W0 hW0 => by (refine oM_gen (fun Kv hK => ?_)); simp [go_sem, cv _ hW0, ch _ hW0, wadd, adL_length, hs8]; (first | exact hK _ _ ⟨rfl, rfl⟩ | exact ⟨by omega, hK _ _ ⟨rfl, rfl⟩⟩)) ?_))))
      refine ⟨Nx, fun w8 h8' => ?_⟩
      obtain ⟨g2, c2, hv2, hb2, hset⟩ := setW (T := 0) (i := j) (at' q.list j + at' s.list j) (ho.keep h8') (by rw [h8]; exact hj8)
      cases hv2
      refine hset _ (fun w9 hg9 ho9 => ?_)
      rw [adL_set q s hj8] at ho9
      have hB9 := grown_below (hB.on h8') hg9 hb2
      repeat (any_goals ((with_reducible refine idO ?_); (with_reducible refine oM_gen fun Kv hK=>?_); simp [go_sem]; (try simp (disch := omega) only [wrapI64, wrapU8, wrapU32, wrapU64]); refine hK _ _ ?_; clear hK; clear Kv))
      refine ⟨⟨j + 1, rfl, hj8, ho9, hB9⟩, ?_⟩
      show 8 - ((j : Int) + 1).toNat < 8 - (j : Int).toNat
      omega
    · obtain rfl : j = 8 := by omega
      repeat (any_goals (first
      | (with_reducible ((refine idCond ?_); refine yM ?_))
      | ((with_reducible refine idO ?_); (with_reducible refine oM_gen fun Kv hK=>?_); simp [go_sem]; refine hK _ _ ?_; clear hK; clear Kv)))
      exact k _ _ (hA.trans (hB.mono hA.size)) (owns_base ho hA.size)
end
end Go.Proofs
namespace Go.Proofs
open Go Go.Sh Go.RowKit ShaSpec FdSpec TkSpec
set_option linter.unusedSimpArgs false
set_option linter.unusedVariables false
set_option maxRecDepth 10000
section
variable {K : Value → World → Prop} {w w0 : World}
theorem OwnB.keep {B : Nat} {v : Value} {l : List UInt8} {w' : World} (h : OwnB w B v l) (hb : Below w.heap.size w w') : OwnB w' B v l :=
  owns_keep h (fun i hi => hb.block i (owns_own h hi).1)
theorem OwnB.shape {B : Nat} {v : Value} {l : List UInt8} (h : OwnB w B v l) : ∃ ad c, v = .slice ad l.length c := by
  rcases h.2 with ⟨rfl, h0⟩ | ⟨g, cap, cur, rfl, _⟩
  · exact ⟨none, 0, by rw [h0]⟩
  · exact ⟨_, cap, rfl⟩
theorem mkB0 {T : TypeId} (k : ∀ v W, Below w.heap.size w W → OwnB W w.heap.size v [] → K v W) : oM Tryz.prog (.buildSlice 189 0 #[]) T [] K w := by
  rw [oM_buildSlice0]
  have e : (Instr.buildSlice 189 0 #[]).run Tryz.prog w = .ok (.slice (some ⟨w.heap.size, 0, none⟩) 0 0) (w.alloc (.cells #[] 5)) := by kernel_rfl
  rw [e]
  exact k _ _ ((Below.refl _ w).alloc (Nat.le_refl _) _) ⟨rfl, .inr ⟨w.heap.size, 0, #[], rfl, Nat.le_refl _, heap_alloc_new w _, Nat.le_refl _, by decide, rfl, rfl⟩⟩
theorem appendBs {B : Nat} {T : TypeId} {v : Value} {l m : List UInt8} {g o n c : Nat} (ho : OwnB w B v l) (hB : B ≤ w.heap.size) (hn : n = m.length) (hx : ∀ i, i < m.length → w.cell? ⟨g, o + i, none⟩ = some (.int .u8 ((m.getD i 0).toNat : Int))) (hl : l.length + m.length < 1099511627776)
    (k : ∀ v' w', OwnB w' B v' (l ++ m) → Below B w w' → K v' w') : oM Tryz.prog (.call { callee := .builtin .append, args := #[.tmp 0, .tmp 1], argTypes := #[189, 189] }) T [v, .slice (some ⟨g, o, none⟩) n c] K w := by
  subst hn
  refine append_at 189 T 5 ((Tryz.prog.info? 5).getD default) (.int .u8 0) 1 1 (by kernel_rfl) (by kernel_rfl) (by kernel_rfl) (by kernel_rfl) (by kernel_rfl) (by kernel_rfl) (by omega) (owns_base ho (Nat.zero_le _)) (Lib.byteCells m) (by simp [Lib.byteCells]) (by simp) ?_ ?_ (by simp only [maxLen]; omega) (by omega) ?_
  · rintro a ha j u hj
    cases ha
    have hjl : j < m.length := by have := (List.getElem?_eq_some_iff.1 hj).1; simpa [Lib.byteCells] using this
    rw [add_none, hx j hjl, ← hj]
    simp [Lib.byteCells, List.getD_eq_getElem?_getD, hjl]
  · intro u hu
    simp only [Lib.byteCells, List.mem_map] at hu
    obtain ⟨x, _, rfl⟩ := hu
    rfl
  · intro v' w' ho' hg hv
    have hbl : ∀ i, v.ownBlock = some i → B ≤ i := fun i hi => (owns_own ho hi).2.1
    refine k v' w' ?_ ((Below.refl B w).grown hg hB hbl)
    have e2 : Lib.byteCells (l ++ m) = Lib.byteCells l ++ Lib.byteCells m := by simp [Lib.byteCells]
    show w'.ownsRow B 5 1 v' (l ++ m).length (Lib.byteCells (l ++ m))
    rw [List.length_append, e2]
    exact owns_up ho' (fun i hi => (hv i hi).elim (hbl i) (fun h => Nat.le_trans hB h))
theorem pushO {B : Nat} {T T' : TypeId} {v : Value} {l : List UInt8} (x : UInt8) {n : Int} (hx : n = (x.toNat : Int)) (ho : OwnB w B v l) (hB : B ≤ w.heap.size) (hl : l.length + 1 < 1099511627776) (k : ∀ v' w', OwnB w' B v' (l ++ [x]) → Below B w w' → K v' w') :
    oM Tryz.prog (.buildSlice 189 1 #[(0, .tmp 0)]) T [.int .u8 n] (fun u w => oM Tryz.prog (.call { callee := .builtin .append, args := #[.tmp 0, .tmp 1], argTypes := #[189, 189] }) T' [v, u] K w) w := by
  subst hx
  refine mkB1 x fun g W hb hc => ?_
  refine appendBs (m := [x]) (ho.keep hb) (Nat.le_trans hB hb.size) rfl (fun i hi => ?_) hl (fun v' w' ho' hb' => k v' w' ho' ((hb.mono hB).trans hb'))
  obtain rfl : i = 0 := by simp at hi; omega
  exact hc
def RzJ (w0 : World) (s : List UInt8) (l : List Value) (w' : World) : Prop := ∃ v j, l = [v] ∧ j ≤ zeros s.length ∧ OwnB w' w0.heap.size v (s ++ [128] ++ List.replicate j 0) ∧ Below w0.heap.size w0 w'
def RlJ (w0 : World) (s : List UInt8) (l : List Value) (w' : World) : Prop := ∃ (v : Value) (j : Nat), l = [v, .int .i64 (56 - 8 * (j : Int))] ∧ j ≤ 8 ∧ OwnB w' w0.heap.size v (s ++ [128] ++ List.replicate (zeros s.length) 0 ++ (lenBytes s.length).take j) ∧ Below w0.heap.size w0 w'
theorem padded_ok (s : List UInt8) (hs : s.length ≤ 1000000000) {v0 : Value} (h0 : BufM w 5 v0 s) (k : ∀ v w', OwnB w' w.heap.size v (padded s) → Below w.heap.size w w' → K v w') : callM Tryz.prog 198 #[v0] K w := by
  apply sh_198_ok
  unfold sh_198
  obtain ⟨g0, c0, rfl, hlt0⟩ := h0.shape
  have hby := bufByR h0
  refine mkB0 fun v1 w1 h1 ho1 => ?_
  refine appendBs (m := s) ho1 h1.size rfl (fun i hi => (hby.next h1).2 i hi) (by simp; omega) (fun v2 w2 ho2 h2 => ?_)
  have h2 := h1.trans h2
  rw [List.nil_append] at ho2
  refine pushO 128 rfl ho2 h2.size (by omega) (fun v3 w3 ho3 h3 => ?_)
  have h3 := h2.trans h3
  refine ⟨RzJ w s, zeMu (s.length + 1 + zeros s.length), ⟨_, 0, rfl, by omega, by simpa using ho3, h3⟩, ?_⟩
  rintro _ _ w1 ⟨v1, j, rfl, hj, ho, hB⟩
  obtain ⟨ad1, c1, rfl⟩ := ho.shape
  have hz : zeros s.length < 64 := by unfold zeros; omega
  by_cases hjz : j < zeros s.length
  · have hm : ¬ ((s.length : Int) + 1 + (j : Int)).tmod 64 = 56 := by
      rw [Int.tmod_eq_emod_of_nonneg (by omega)]; unfold zeros at hjz; omega
    rw [sha_len] at *
    repeat (any_goals (first
    | ((with_reducible refine pushO 0 rfl ho hB.size (by rw [sha_len]; omega) ?_); intro v2 w2 ho2 h2)
    | (with_reducible ((refine idCond ?_); refine yL ?_))
    | ((with_reducible refine idO ?_); (with_reducible refine oM_gen fun Kv hK=>?_); simp [go_sem, hm]; refine hK _ _ ?_; clear hK; clear Kv)))
    have h2 := hB.trans h2
    have e : s ++ [(128 : UInt8)] ++ List.replicate j 0 ++ [0] = s ++ [128] ++ List.replicate (j + 1) 0 := by
      simp [List.replicate_succ', List.append_assoc]
    rw [e] at ho2
    obtain ⟨ad2, c2, rfl⟩ := ho2.shape
    refine ⟨⟨_, j + 1, rfl, hjz, ho2, h2⟩, ?_⟩
    rw [sha_len]
    simp only [zeMu_eq]; omega
  · obtain rfl : j = zeros s.length := by omega
    have hm : ((s.length : Int) + 1 + (zeros s.length : Int)).tmod 64 = 56 := by
      rw [Int.tmod_eq_emod_of_nonneg (by omega)]; unfold zeros; omega
    rw [sha_len] at *
    have hq : IntKind.u64.wrap (s.length : Int) = (s.length : Int) := wrapU64 _ (by omega) (by omega)
    repeat (any_goals (first
    | (with_reducible ((refine idCond ?_); refine yM ?_))
    | ((with_reducible refine idO ?_); (with_reducible refine oM_gen fun Kv hK=>?_); simp [go_sem, hm, hq]; (try simp (disch := omega) only [wrapI64, wrapU8, wrapU32, wrapU64]); refine hK _ _ ?_; clear hK; clear Kv)))
    refine ⟨RlJ w s, leMu, ⟨_, 0, rfl, by omega, by simpa using ho, hB⟩, ?_⟩
    clear ho hB hm
    rintro _ _ w1 ⟨v1, j, rfl, hj, ho, hB⟩
    have hle : (s ++ [(128 : UInt8)] ++ List.replicate (zeros s.length) 0 ++ (lenBytes s.length).take j).length = s.length + 1 + zeros s.length + j := by
      rw [List.length_append, sha_len, List.length_take, lenBytes_length]; omega
    by_cases hj8 : j < 8
    · have hsh := fun t t' T x => oM_shr64 (P := Tryz.prog) t t' T .i64 x (56 - 8 * (j : Int)) (by omega) (by omega)
      repeat (any_goals (first
      | ((with_reducible refine pushO ((lenBytes s.length).getD j 0) (lenByte _ _ hj8 (by omega)) ho hB.size (by omega) ?_); intro v2 w2 ho2 h2)
      | (with_reducible ((refine idCond ?_); refine yN ?_))
      | ((with_reducible refine idO ?_); (with_reducible refine oM_gen fun Kv hK=>?_); simp [go_sem, hq, hsh]; (try simp (disch := omega) only [wrapI64, wrapU8, wrapU32, wrapU64]); refine hK _ _ ?_; clear hK; clear Kv)))
      refine ⟨⟨_, j + 1, by rw [show 56 - 8 * (j : Int) - 8 = 56 - 8 * ((j + 1 : Nat) : Int) by omega], hj8, ?_, hB.trans h2⟩, ?_⟩
      · rw [take_next _ _ (by rw [lenBytes_length]; exact hj8), ← List.append_assoc]
        exact ho2
      · simp only [leMu_eq]; omega
    · obtain rfl : j = 8 := by omega
      rw [List.take_of_length_le (by rw [lenBytes_length]; omega)] at ho
      repeat (any_goals (first
      | (with_reducible ((refine idCond ?_); refine yM ?_))
      | ((with_reducible refine idO ?_); (with_reducible refine oM_gen fun Kv hK=>?_); simp [go_sem]; refine hK _ _ ?_; clear hK; clear Kv)))
      exact k _ _ ho hB
end
end Go.Proofs
namespace Go.Proofs
open Go Go.Sh Go.RowKit ShaSpec FdSpec TkSpec
set_option linter.unusedSimpArgs false
set_option linter.unusedVariables false
set_option maxRecDepth 10000
section
variable {K : Value → World → Prop} {w w0 : World}
theorem slice64 {T : TypeId} {g n c t : Nat} {j : Int} (hj : j = ((64 * t + 64 : Nat) : Int)) (hn : 64 * t + 64 ≤ c) (k : K (.slice (some ⟨g, 64 * t, none⟩) 64 (c - 64 * t)) w) :
    oM Tryz.prog (.slice 189 (.tmp 0) (some (.tmp 1)) (some (.tmp 2)) none) T [.slice (some ⟨g, 0, none⟩) n c, .int .i64 ((64 * t : Nat) : Int), .int .i64 j] K w := by
  subst hj
  have hs : ∀ w, (sizeOf (Tryz.prog.elem 189)).run Tryz.prog w = .ok 1 w := fun w => by kernel_rfl
  rw [rM_of (S := Instr.sliceAt 189 (.slice (some ⟨g, 0, none⟩) n c) (some (.int .i64 ((64 * t : Nat) : Int))) (some (.int .i64 ((64 * t + 64 : Nat) : Int))) none) rfl,
    run_sliceAt_slice w 189 _ _ _ _ (by kernel_rfl), run_slice_lh w 189 _ n c (by kernel_rfl) .i64 .i64 _ _ (by omega) (by omega) (by omega), hs]
  simp only [Result.andThen_ok, sliced, Int.toNat_natCast]
  rw [if_neg (by omega), show 64 * t + 64 - 64 * t = 64 by omega]
  simp only [Option.map_some, add_none, Nat.mul_one, Nat.zero_add, rM_ok]
  exact k
def RbJ (w0 : World) (p : List UInt8) (m : Nat) (R : St) (l : List Value) (w' : World) : Prop :=
  ∃ (v : Value) (t : Nat) (st : St), l = [v, .int .i64 ((64 * t : Nat) : Int)] ∧ t ≤ m ∧ WrdR w' v st.list ∧ Nx w0 w' ∧ blocks (m - t) st (p.drop (64 * t)) = R
def rbMu (n : Nat) (l : List Value) (_ : World) : Nat := match l with | [_, .int _ i] => n - i.toNat | _ => 0
theorem rbMu_eq (n : Nat) (a : Value) (q : IntKind) (i : Int) (w : World) : rbMu n [a, .int q i] w = n - i.toNat := rfl
def shaL (st : St) : List UInt8 := (st.list.map out1).flatten
theorem shaL_length (st : St) : (shaL st).length = 32 := by simp [shaL, St.list, out1]
theorem shaL_at (st : St) : ∀ i, i < 32 → (shaL st).getD i 0 = lo8 (at' st.list (i / 4) >>> (24 - 8 * (i % 4))) := by
  intro i hi
  have e : shaL st = [out1 st.a, out1 st.b, out1 st.c, out1 st.d, out1 st.e, out1 st.f, out1 st.g, out1 st.h].flatten := rfl
  rw [e]
  simp only [out1_eq]
  obtain ⟨q, r, rfl, hr⟩ : ∃ q r, i = 4 * q + r ∧ r < 4 := ⟨i / 4, i % 4, by omega, by omega⟩
  rw [show (4 * q + r) / 4 = q by omega, show (4 * q + r) % 4 = r by omega]
  have hq : q < 8 := by omega
  rcases q with _ | _ | _ | _ | _ | _ | _ | _ | q
  all_goals first | omega | skip
  all_goals (rcases r with _ | _ | _ | _ | r <;> first | omega | rfl | (show lo8 _ = lo8 _; congr 1))
def RoJ (w0 : World) (st : St) (l : List Value) (w' : World) : Prop := ∃ (v : Value) (i : Nat), l = [v, .int .i64 (i : Int)] ∧ i ≤ 32 ∧ OwnB w' w0.heap.size v ((shaL st).take i) ∧ Nx w0 w'
def roMu (l : List Value) (_ : World) : Nat := match l with | [_, .int _ i] => 32 - i.toNat | _ => 0
theorem roMu_eq (a : Value) (q : IntKind) (i : Int) (w : World) : roMu [a, .int q i] w = 32 - i.toNat := rfl
theorem rSha_ok (s : List UInt8) (hs : s.length ≤ 1000000000) (k : ∀ w', Below w.heap.size w w' → K (.string ⟨(sha s).toArray⟩) w') : callM Tryz.prog 173 #[.string ⟨s.toArray⟩] K w := by
  apply sh_173_ok
  unfold sh_173
  refine ofStr s fun v0 w1 h1 => ?_
  have hN1 : Nx w w1 := h1.below
  refine padded_ok s hs h1.row (fun v1 w2 ho2 h2 => ?_)
  have hN2 : Nx w w2 := hN1.on h2
  refine firsts_ok fun v2 w3 h3 ho3 => ?_
  have hN3 : Nx w w3 := hN2.on h3
  have ho1 := ho2.keep h3
  have hp64 := padded_length s
  obtain ⟨m, hm⟩ : ∃ m, (padded s).length = 64 * m := ⟨(padded s).length / 64, by omega⟩
  have hpl : (padded s).length = s.length + 1 + zeros s.length + 8 := by
    simp only [padded, List.length_append, List.length_replicate, lenBytes_length, List.length_singleton]
  have hpz : zeros s.length < 64 := by unfold zeros; omega
  obtain ⟨g, cap, cur, rfl, hlt, _, _, _, hcap, hc⟩ := owns_cells ho1 (by omega)
  have hby : ByR w3 g 0 (padded s) := ⟨hlt, fun i hi => by
    rw [Nat.zero_add]
    exact hc i _ (by simp [Lib.byteCells, List.getD_eq_getElem?_getD, hi])⟩
  have ef : sha s = shaL (blocks m first (padded s)) := by
    unfold sha shaL
    rw [hm, Nat.mul_div_cancel_left m (by omega)]
  refine ⟨RbJ w3 (padded s) m (blocks m first (padded s)), rbMu (64 * m), ⟨_, 0, first, rfl, by omega, ho3.read, Below.refl _ _, rfl⟩, ?_⟩
  clear ho3 ho1 hc hlt ho2 h2 h1
  generalize blocks m first (padded s) = R at *
  rintro _ _ w4 ⟨hv, t, st, rfl, ht, hw, hN, hR⟩
  by_cases htm : t < m
  · obtain ⟨r, hr⟩ : ∃ r, m - t = r + 1 := ⟨m - t - 1, by omega⟩
    rw [hr] at hR
    have hlen : ((padded s).length : Int) = 64 * (m : Int) := by omega
    have hlt64 : (64 * t : Nat) < (64 * m : Nat) := by omega
    repeat (any_goals (first
    | (with_reducible ((refine idCond ?_); refine yN ?_))
    | ((with_reducible refine idO ?_); (with_reducible refine oM_gen fun Kv hK=>?_); simp [go_sem, hlen]; (try simp (disch := omega) only [wrapI64, wrapU8, wrapU32, wrapU64]); refine hK _ _ ?_; clear hK; clear Kv)))
    refine slice64 (t := t) (by omega) (by omega) ?_
    have hpart := (hby.next hN).part (64 * t) 64 (by omega)
    rw [Nat.zero_add] at hpart
    refine block_ok st _ (by rw [List.length_take, List.length_drop]; omega) hpart hw (fun v5 w5 h5 ho5 => ?_)
    repeat (any_goals ((with_reducible refine idO ?_); (with_reducible refine oM_gen fun Kv hK=>?_); simp [go_sem]; (try simp (disch := omega) only [wrapI64, wrapU8, wrapU32, wrapU64]); refine hK _ _ ?_; clear hK; clear Kv))
    refine ⟨⟨v5, t + 1, _, by rw [show (64 * (t : Int) + 64) = ((64 * (t + 1) : Nat) : Int) by omega], by omega, ho5.read, hN.on h5, ?_⟩, ?_⟩
    · rw [show m - (t + 1) = r by omega, ← hR]
      show _ = blocks r (mix st ((List.drop (64 * t) (padded s)).take 64)) ((List.drop (64 * t) (padded s)).drop 64)
      rw [List.drop_drop, show 64 * t + 64 = 64 * (t + 1) by omega]
    · simp only [rbMu_eq]; omega
  · obtain rfl : t = m := by omega
    rw [Nat.sub_self] at hR
    have hst : st = R := hR
    subst hst
    have hlen : ((padded s).length : Int) = 64 * (t : Int) := by omega
    repeat (any_goals (first
    | ((with_reducible refine mkB0 ?_); intro v5 w5 h5 ho5)
    | (with_reducible ((refine idCond ?_); refine yM ?_))
    | ((with_reducible refine idO ?_); (with_reducible refine oM_gen fun Kv hK=>?_); simp [go_sem, hlen]; refine hK _ _ ?_; clear hK; clear Kv)))
    obtain ⟨bh, oh, chh, rfl, hhr⟩ := hw.at (show 0 < 8 by decide)
    have hN5 : Nx w4 w5 := h5
    refine ⟨RoJ w4 st, roMu, ⟨_, 0, rfl, by omega, ho5, hN5⟩, ?_⟩
    clear ho5 h5 hN5
    rintro _ _ w6 ⟨v6, i, rfl, hi, ho6, hN6⟩
    by_cases hi32 : i < 32
    · have hl := shaL_length st
      have e1 : (i : Int).tdiv 4 = ((i / 4 : Nat) : Int) := by rw [Int.tdiv_eq_ediv_of_nonneg (by omega)]; omega
      have e2 : (i : Int).tmod 4 = ((i % 4 : Nat) : Int) := by rw [Int.tmod_eq_emod_of_nonneg (by omega)]; omega
      have hs8 : st.list.length = 8 := rfl
      have hcell := hhr w6 hN6 (i / 4) (by rw [hs8]; omega)
      obtain ⟨q, hq⟩ : ∃ q, q = i / 4 := ⟨_, rfl⟩
      obtain ⟨r, hr⟩ : ∃ r, r = i % 4 := ⟨_, rfl⟩
      have hat := shaL_at st i hi32
      rw [← hq] at e1 hcell hat
      rw [← hr] at e2 hat
      have hsh : ∀ t t' T, oM Tryz.prog (.binOp .shr t (.tmp 0) (.tmp 1) t') T [w32 (at' st.list q), .int .i64 (24 - 8 * (r : Int))] = pureM (w32 (at' st.list q >>> (24 - 8 * r))) := fun t t' T => by
        have := wshr (P := Tryz.prog) t t' T .i64 (at' st.list q) (24 - 8 * r) (by omega)
        rw [← this]
        congr 4
        omega
      repeat (any_goals (first
      | ((with_reducible refine pushO (lo8 (at' st.list q >>> (24 - 8 * r))) rfl ho6 hN6.size (by rw [List.length_take]; omega) ?_); intro v7 w7 ho7 h7)
      | (with_reducible ((refine idCond ?_); refine yN ?_))
      | ((with_reducible refine idO ?_); (with_reducible refine oM_gen fun Kv hK=>?_); simp [go_sem, e1, e2, hcell, hs8, hsh, conv_w8]; (try simp (disch := omega) only [wrapI64, wrapU8, wrapU32, wrapU64]); (first|refine hK _ _ ?_|refine And.intro (by omega) (hK _ _ ?_)); clear hK; clear Kv)))
      rw [← hat, ← take_next (shaL st) i (by omega)] at ho7
      refine ⟨⟨v7, i + 1, rfl, hi32, ho7, hN6.trans h7⟩, ?_⟩
      simp only [roMu_eq]; omega
    · obtain rfl : i = 32 := by omega
      rw [List.take_of_length_le (by rw [shaL_length]; omega)] at ho6
      repeat (any_goals (first
      | ((with_reducible refine toStrB ho6 (by rw [shaL_length]; omega) ?_))
      | (with_reducible ((refine idCond ?_); refine yM ?_))
      | ((with_reducible refine idO ?_); (with_reducible refine oM_gen fun Kv hK=>?_); simp [go_sem]; refine hK _ _ ?_; clear hK; clear Kv)))
      rw [← ef]
      exact k _ ((hN3.on hN).on hN6)
def RnJ (n R : Int) (d : List UInt8) (w0 : World) (l : List Value) (w' : World) : Prop := Below w0.heap.size w0 w' ∧ ∃ (o : Int) (i : Nat), l = [.int .i64 o, .int .i64 (i : Int)] ∧ i ≤ d.length ∧ (d.drop i).foldl (numStep n) o = R
theorem rNumber_ok (s : List UInt8) (n : Int) (hs : s.length ≤ 1000000000) (k : ∀ w', Below w.heap.size w w' → K (.int .i64 (numberM s n)) w') : callM Tryz.prog 132 #[.string ⟨s.toArray⟩, .int .i64 n] K w := by
  apply sh_132_ok
  unfold sh_132
  unfold numberM at k
  refine rValid_ok n ?_
  by_cases hn : okN n
  · rw [if_pos hn] at k
    repeat (any_goals (first
    | (with_reducible ((refine idCond ?_); refine yR ?_))
    | ((with_reducible refine idO ?_); (with_reducible refine oM_gen fun Kv hK=>?_); simp [go_sem]; refine hK _ _ ?_; clear hK; clear Kv)))
    refine rSha_ok s hs (fun w1 h1 => ?_)
    have hl := ShaSpec.sha_length s
    generalize ShaSpec.sha s = d at *
    refine ⟨RnJ n (d.foldl (numStep n) 0) d w, rpdMu d.length, ⟨h1, _, 0, rfl, by omega, rfl⟩, ?_⟩
    clear h1
    rintro _ _ w3 ⟨h3, o, i, rfl, hi, hf⟩
    have hds : (⟨d.toArray⟩ : ByteArray).size = d.length := rfl
    by_cases hin : i < d.length
    · have hbt : byteAt ⟨d.toArray⟩ i = d[i] := by
        unfold byteAt
        simp [hin]
      repeat (any_goals (first
      | (with_reducible ((refine idCond ?_); refine yN ?_))
      | ((with_reducible refine idO ?_); (with_reducible refine oM_gen fun Kv hK=>?_); simp [go_sem, hds]; refine hK _ _ ?_; clear hK; clear Kv)))
      refine ⟨Nx w3, .drawn, ?_⟩
      refine callQ_of (fun W0 hW0 => rMul_ok n o 256 ⟨rfl, hW0⟩) ?_
      have hu := (d[i]).toNat_lt
      have hw8 : IntKind.i64.wrap ((d[i]).toNat : Int) = ((d[i]).toNat : Int) := wrapI64 _ (by omega) (by omega)
      repeat (any_goals ((with_reducible refine idOQ ?_); (with_reducible refine oQ_of ⟨_, rfl⟩ (fun W0 hW0 => by (refine oM_gen (fun Kv hK => ?_)); simp [go_sem, hds, hbt, hw8]; (first | exact hK _ _ ⟨rfl, rfl⟩ | exact ⟨by omega, hK _ _ ⟨rfl, rfl⟩⟩)) ?_)))
      refine callQ_of (fun W0 hW0 => rAdd_ok n _ _ ⟨rfl, hW0⟩) ?_
      intro w4 h4
      repeat (any_goals ((with_reducible refine idO ?_); (with_reducible refine oM_gen fun Kv hK=>?_); simp [go_sem]; (try simp (disch := omega) only [wrapI64, wrapU8, wrapU32, wrapU64]); refine hK _ _ ?_; clear hK; clear Kv))
      rw [List.drop_eq_getElem_cons hin, List.foldl_cons] at hf
      refine ⟨⟨h3.on h4, _, i + 1, rfl, by omega, hf⟩, ?_⟩
      simp only [rpdMu_eq]; omega
    · rw [List.drop_of_length_le (by omega), List.foldl_nil] at hf
      repeat (any_goals (first
      | (with_reducible ((refine idCond ?_); refine yO ?_))
      | ((with_reducible refine idO ?_); (with_reducible refine oM_gen fun Kv hK=>?_); simp [go_sem, hds]; refine hK _ _ ?_; clear hK; clear Kv)))
      rw [hf]
      exact k _ h3
  · rw [if_neg hn] at k
    repeat (any_goals (first
    | (with_reducible ((refine idCond ?_); refine yQ ?_))
    | ((with_reducible refine idO ?_); (with_reducible refine oM_gen fun Kv hK=>?_); simp [go_sem]; refine hK _ _ ?_; clear hK; clear Kv)))
    exact k _ (Below.refl _ _)
end
end Go.Proofs
set_option linter.unusedVariables false
set_option maxRecDepth 100000
namespace Go.Proofs
open Go.Sh
def sh_169 (a0 : Value) (K : Value → World → Prop) (w : World) : Prop :=
 oM Tryz.prog (.binOp .rem 3 (.tmp 0) (.tmp 1) 3) 3 [a0, (.int .i64 10)] (fun v5_1 w =>
 oM Tryz.prog (.binOp .sub 3 (.tmp 0) (.tmp 1) 3) 3 [(.int .i64 48), v5_1] (fun v6_2 w =>
 oM Tryz.prog (.convert 3 5 (.tmp 0)) 5 [v6_2] (fun v7_3 w =>
 oM Tryz.prog (.buildSlice 189 1 #[(0, (.tmp 0))]) 189 [v7_3] (fun v8_4 w =>
 oM Tryz.prog (.convert 189 9 (.tmp 0)) 9 [v8_4] (fun v9_5 w =>
 oM Tryz.prog (.binOp .gtr 3 (.tmp 0) (.tmp 1) 3) 4 [a0, (.int .i64 (-10))] (fun v11_6 w =>
 condM v11_6
 (K v9_5 w)
 (oM Tryz.prog (.binOp .quo 3 (.tmp 0) (.tmp 1) 3) 3 [a0, (.int .i64 10)] (fun v14_7 w =>
 callM Tryz.prog 169 #[v14_7] (fun v15_8 w =>
 oM Tryz.prog (.binOp .add 9 (.tmp 0) (.tmp 1) 9) 9 [v15_8, v9_5] (fun v17_9 w =>
 K v17_9 w) w) w) w)) w) w) w) w) w) w
theorem sh_169_eq (a0 : Value) (K : Value → World → Prop) (w : World) : sh_169 a0 K w = code Tryz.prog (fun _ => 0) 18 (Tryz.f169.body.getD .skip) (slotsAt [a0]) (retK Tryz.prog [.tmp 2] K) w := by kernel_rfl
theorem sh_169_ok {a0 : Value} {K : Value → World → Prop} {w : World} (h : sh_169 a0 K w) : callM Tryz.prog 169 #[a0] K w :=
  calls_of_code (fun _ => 0) (fn := Tryz.f169) (rs := [.tmp 2]) Tryz.func169 rfl rfl (by kernel_rfl) (Nat.le_of_ble_eq_true rfl) ((sh_169_eq a0 K w).mp h)
def sh_170 (a0 : Value) (K : Value → World → Prop) (w : World) : Prop :=
 oM Tryz.prog (.binOp .lss 3 (.tmp 0) (.tmp 1) 3) 4 [a0, (.int .i64 0)] (fun v4_1 w =>
 condM v4_1
 (callM Tryz.prog 169 #[a0] (fun v6_2 w =>
 oM Tryz.prog (.binOp .add 9 (.tmp 0) (.tmp 1) 9) 9 [(.string ⟨#[45]⟩), v6_2] (fun v7_3 w =>
 oM Tryz.prog (.binOp .add 9 (.tmp 0) (.tmp 1) 9) 9 [v7_3, (.string ⟨#[59]⟩)] (fun v8_4 w =>
 K v8_4 w) w) w) w)
 (oM Tryz.prog (.unOp .neg 3 (.tmp 0)) 3 [a0] (fun v10_5 w =>
 callM Tryz.prog 169 #[v10_5] (fun v11_6 w =>
 oM Tryz.prog (.binOp .add 9 (.tmp 0) (.tmp 1) 9) 9 [v11_6, (.string ⟨#[59]⟩)] (fun v12_7 w =>
 K v12_7 w) w) w) w)) w
theorem sh_170_eq (a0 : Value) (K : Value → World → Prop) (w : World) : sh_170 a0 K w = code Tryz.prog (fun _ => 0) 13 (Tryz.f170.body.getD .skip) (slotsAt [a0]) (retK Tryz.prog [.tmp 2] K) w := by kernel_rfl
theorem sh_170_ok {a0 : Value} {K : Value → World → Prop} {w : World} (h : sh_170 a0 K w) : callM Tryz.prog 170 #[a0] K w :=
  calls_of_code (fun _ => 0) (fn := Tryz.f170) (rs := [.tmp 2]) Tryz.func170 rfl rfl (by kernel_rfl) (Nat.le_of_ble_eq_true rfl) ((sh_170_eq a0 K w).mp h)
def sh_129 (a0 : Value) (K : Value → World → Prop) (w : World) : Prop :=
 oM Tryz.prog (.call (Go.Call.mk (.builtin .len) #[(.tmp 0)] #[22])) 3 [a0] (fun v6_1 w =>
 oM Tryz.prog (.unOp .neg 3 (.tmp 0)) 3 [v6_1] (fun v7_2 w =>
 callM Tryz.prog 169 #[v7_2] (fun v8_3 w =>
 oM Tryz.prog (.binOp .add 9 (.tmp 0) (.tmp 1) 9) 9 [v8_3, (.string ⟨#[91]⟩)] (fun v9_4 w =>
 loopM [v9_4, (.int .i64 0)] w (fun J_5 m_6 l_7 u_l_7 w0_l_7 => (fun w => (
 oM Tryz.prog (.call (Go.Call.mk (.builtin .len) #[(.tmp 0)] #[22])) 3 [a0] (fun v12_8 w =>
 oM Tryz.prog (.binOp .lss 3 (.tmp 0) (.tmp 1) 3) 4 [(l_7.getD 1 undef), v12_8] (fun v13_9 w =>
 condM v13_9
 (oM Tryz.prog (.indexAddr 22 (.tmp 0) (.tmp 1)) 0 [a0, (l_7.getD 1 undef)] (fun v19_10 w =>
 oM Tryz.prog (.load 3 (.tmp 0)) 3 [v19_10] (fun v20_11 w =>
 callM Tryz.prog 170 #[v20_11] (fun v21_12 w =>
 oM Tryz.prog (.binOp .add 9 (.tmp 0) (.tmp 1) 9) 9 [(l_7.getD 0 undef), v21_12] (fun v22_13 w =>
 oM Tryz.prog (.binOp .add 3 (.tmp 0) (.tmp 1) 3) 3 [(l_7.getD 1 undef), (.int .i64 1)] (fun v15_14 w =>
 J_5 [v22_13, v15_14] w ∧ m_6 [v22_13, v15_14] w < m_6 l_7 w0_l_7) w) w) w) w) w)
 (oM Tryz.prog (.binOp .add 9 (.tmp 0) (.tmp 1) 9) 9 [(l_7.getD 0 undef), (.string ⟨#[93]⟩)] (fun v24_15 w =>
 K v24_15 w) w)) w) w)) w0_l_7)) w) w) w) w
theorem sh_129_eq (a0 : Value) (K : Value → World → Prop) (w : World) : sh_129 a0 K w = code Tryz.prog (fun _ => 0) 25 (Tryz.f129.body.getD .skip) (slotsAt [a0]) (retK Tryz.prog [.tmp 2] K) w := by kernel_rfl
theorem sh_129_ok {a0 : Value} {K : Value → World → Prop} {w : World} (h : sh_129 a0 K w) : callM Tryz.prog 129 #[a0] K w :=
  calls_of_code (fun _ => 0) (fn := Tryz.f129) (rs := [.tmp 2]) Tryz.func129 rfl rfl (by kernel_rfl) (Nat.le_of_ble_eq_true rfl) ((sh_129_eq a0 K w).mp h)
end Go.Proofs
namespace Go.Proofs.Cd
open Go Go.Sh Go.RowKit Go.Lib CodeSpec
set_option linter.unusedSimpArgs false
set_option maxRecDepth 10000
theorem digits_ok (m : Nat) (hm : m ≤ 9223372036854775808) {K : Value → World → Prop} {w : World} (k : ∀ w', Below w.heap.size w w' → K (.string ⟨(decDigits m).toArray⟩) w') : callM Tryz.prog 169 #[.int .i64 (-(m : Int))] K w := by
  induction m using Nat.strongRecOn generalizing K w with
  | ind m ih =>
  apply sh_169_ok
  unfold sh_169
  have hr : (-(m : Int)).tmod 10 = -((m % 10 : Nat) : Int) := by rw [Int.neg_tmod, Int.tmod_eq_emod_of_nonneg (by omega)]; omega
  have hq : (-(m : Int)).tdiv 10 = -((m / 10 : Nat) : Int) := by rw [Int.neg_tdiv, Int.tdiv_eq_ediv_of_nonneg (by omega)]; omega
  obtain ⟨d, hd⟩ : ∃ d, d = m % 10 := ⟨_, rfl⟩
  obtain ⟨q, hqq⟩ : ∃ q, q = m / 10 := ⟨_, rfl⟩
  rw [← hd] at hr
  rw [← hqq] at hq
  have hd10 : d < 10 := by omega
  have hconv : (convert 189 9 (.slice (some ⟨w.heap.size, 0, none⟩) 1 1)).run Tryz.prog (w.alloc (.cells #[.int .u8 (48 + (d : Int))] 5)) = .ok (.string ⟨[UInt8.ofNat (48 + d)].toArray⟩) (w.alloc (.cells #[.int .u8 (48 + (d : Int))] 5)) := by
    refine run_convert_bytes_back (P := Tryz.prog) _ 189 9 5 ⟨w.heap.size, 0, none⟩ 1 [UInt8.ofNat (48 + d)] Tryz.underlying189 (by kernel_rfl) Tryz.underlying9 ?_
    intro j hj
    obtain rfl : j = 0 := by simpa using hj
    have hdn := digit_toNat d hd10
    rw [addr_add]
    unfold World.cell?
    rw [heap_alloc_new]
    simp only [List.getElem_cons_zero, hdn]
    simp
  have hba : Below w.heap.size w (w.alloc (.cells #[.int .u8 (48 + (d : Int))] 5)) := (Below.refl _ _).alloc (Nat.le_refl _) _
  have hdl := decDigits_len q 19 (by omega) (by omega)
  repeat (any_goals (first
  | (with_reducible ((refine idCond ?_); refine yP (fun hg=>?_) fun hg=>?_))
  | ((with_reducible refine idO ?_); (with_reducible refine oM_gen fun Kv hK=>?_); simp [go_sem, hr, hq, hconv]; (try simp (disch := omega) only [wrapI64, wrapU8, wrapU32, wrapU64]); refine hK _ _ ?_; clear hK; clear Kv)))
  · refine K_eq (k _ hba) ?_
    have : m < 10 := by omega
    rw [decDigits, dif_pos this]
    have : d = m := by omega
    rw [this]
    simp
  · refine ih q (by omega) (by omega) ?_
    intro w' hb
    repeat (any_goals ((with_reducible refine idO ?_); (with_reducible refine oM_gen fun Kv hK=>?_); simp [go_sem]; refine And.intro (by omega) (hK _ _ ?_); clear hK; clear Kv))
    refine K_eq (k _ (hba.trans (hb.mono (by simp)))) ?_
    have : ¬ m < 10 := by omega
    rw [decDigits.eq_def m, dif_neg this, hd, hqq]
    simp
theorem itoa_neg (n : Int) (h : n < 0) : itoa n = 45 :: decDigits n.natAbs := by rw [itoa, if_pos h]
theorem itoa_pos (n : Int) (h : ¬ n < 0) : itoa n = decDigits n.natAbs := by
  rw [itoa, if_neg h]
  congr 1
  omega
theorem dig_len (n : Int) (h : InR n) : (decDigits n.natAbs).length ≤ 19 := by
  obtain ⟨h1, h2⟩ := h
  exact decDigits_len n.natAbs 19 (by omega) (by omega)
theorem qInt_ok (n : Int) (hn : InR n) {K : Value → World → Prop} {w : World} (k : ∀ w', Below w.heap.size w w' → K (.string ⟨(encInt n).toArray⟩) w') : callM Tryz.prog 170 #[.int .i64 n] K w := by
  apply sh_170_ok
  unfold sh_170
  have hl := dig_len n hn
  have hn' := hn
  obtain ⟨h1, h2⟩ := hn'
  by_cases hneg : n < 0
  · have e : n = -(n.natAbs : Int) := by omega
    repeat (any_goals (first
    | (with_reducible ((refine idCond ?_); refine yN ?_))
    | ((with_reducible refine idO ?_); (with_reducible refine oM_gen fun Kv hK=>?_); simp [go_sem]; refine hK _ _ ?_; clear hK; clear Kv)))
    conv => enter [3]; rw [e]
    refine digits_ok n.natAbs (by omega) ?_
    intro w' hb
    repeat (any_goals ((with_reducible refine idO ?_); (with_reducible refine oM_gen fun Kv hK=>?_); simp [go_sem]; refine And.intro (by omega) (hK _ _ ?_); clear hK; clear Kv))
    exact K_eq (k _ hb) (by rw [encInt, itoa_neg n hneg]; simp)
  · have e : -n = -(n.natAbs : Int) := by omega
    repeat (any_goals (first
    | (with_reducible ((refine idCond ?_); refine yO ?_))
    | ((with_reducible refine idO ?_); (with_reducible refine oM_gen fun Kv hK=>?_); simp [go_sem]; (try simp (disch := omega) only [wrapI64, wrapU8, wrapU32, wrapU64]); refine hK _ _ ?_; clear hK; clear Kv)))
    rw [e]
    refine digits_ok n.natAbs (by omega) ?_
    intro w' hb
    repeat (any_goals ((with_reducible refine idO ?_); (with_reducible refine oM_gen fun Kv hK=>?_); simp [go_sem]; refine And.intro (by omega) (hK _ _ ?_); clear hK; clear Kv))
    exact K_eq (k _ hb) (by rw [encInt, itoa_pos n hneg])
theorem itoa_nat (m : Nat) : itoa (m : Int) = decDigits m := by
  rw [itoa, if_neg (by omega)]; simp
theorem qNums_ok (xs : List (Int)) (v : Value) {K : Value → World → Prop} {w : World} (hrow : RowOf intV w v xs) (hx : ∀ x ∈ xs, InR x) (hlen : (encList (xs.map encInt)).length < 2^40)
    (k : ∀ w', Below w.heap.size w w' → K (.string ⟨(encList (xs.map encInt)).toArray⟩) w') : callM Tryz.prog 129 #[v] K w := by
  apply sh_129_ok
  unfold sh_129
  have hsz : (encList (xs.map encInt)).length = (itoa (xs.length : Nat)).length + 1 + ((xs.map encInt).flatten).length + 1 := by simp [encList]; omega
  have hxl : xs.length ≤ (xs.map encInt).flatten.length := by
    rw [List.length_flatten]
    clear hrow hlen hsz k
    induction xs with
    | nil => simp
    | cons x xs ih =>
      have := ih (fun y hy => hx y (List.mem_cons_of_mem _ hy))
      have h1 : 1 ≤ (encInt x).length := by simp [encInt]; try omega
      simp only [List.length_cons, List.map_cons, List.sum_cons]
      omega
  have hdl := decDigits_len xs.length 19 (by omega) (by omega)
  obtain ⟨ad, c, rfl, hcell⟩ := hrow
  repeat (any_goals ((with_reducible refine idO ?_); (with_reducible refine oM_gen fun Kv hK=>?_); simp [go_sem]; (try simp (disch := omega) only [wrapI64, wrapU8, wrapU32, wrapU64]); refine hK _ _ ?_; clear hK; clear Kv))
  refine digits_ok xs.length (by omega) ?_
  intro w1 hb1
  repeat (any_goals ((with_reducible refine idO ?_); (with_reducible refine oM_gen fun Kv hK=>?_); simp [go_sem]; refine And.intro (by omega) (hK _ _ ?_); clear hK; clear Kv))
  refine ⟨fun l w' => ∃ (k : Nat), l = [.string ⟨(itoa (xs.length : Nat) ++ 91 :: ((xs.take k).map encInt).flatten).toArray⟩, .int .i64 k] ∧ k ≤ xs.length ∧ Below w.heap.size w w', fun l _ => xs.length - (match l with | [_, .int _ n] => n.toNat | _ => 0), ⟨0, by simp [itoa_nat], by omega, hb1⟩, ?_⟩
  rintro _ _ w3 ⟨j, rfl, hj, hb3⟩
  have hz3 := hb3.size
  simp only [List.getD_cons_zero, List.getD_cons_succ]
  have hfl := flat_le encInt xs j
  by_cases hlt : j < xs.length
  · rcases hcell with rfl | ⟨b, o, rfl, hbw, hcells⟩
    · simp at hlt
    have hc := hcells j hlt
    rw [← hb3.cell hbw] at hc
    simp only [intV] at hc
    have hix := idx22 (b := b) (o := o) (c := c) hlt w3
    have hP := hx xs[j] (List.getElem_mem hlt)
    have hfl1 := flat_le encInt xs (j + 1)
    rw [flat_snoc _ _ _ hlt, List.length_append] at hfl1
    have hgoal : ∀ w4, Below w3.heap.size w3 w4 → ∃ k : Nat, ([Value.string ⟨((itoa (xs.length : Nat) ++ 91 :: ((xs.take j).map encInt).flatten) ++ encInt xs[j]).toArray⟩, Value.int .i64 ((j : Int) + 1)] = [.string ⟨(itoa (xs.length : Nat) ++ 91 :: ((xs.take k).map encInt).flatten).toArray⟩, .int .i64 (k : Int)]) ∧ k ≤ xs.length ∧ Below w.heap.size w w4 :=
      fun w4 hb4 => ⟨j + 1, by rw [flat_snoc _ _ _ hlt]; simp, hlt, hb3.trans (hb4.mono hz3)⟩
    obtain ⟨F, hF⟩ : ∃ F, F = itoa (xs.length : Nat) ++ 91 :: ((xs.take j).map encInt).flatten := ⟨_, rfl⟩
    have hFl : F.length ≤ 2^41 := by rw [hF, List.length_append, List.length_cons]; omega
    obtain ⟨E, hE⟩ : ∃ E, E = encInt xs[j] := ⟨_, rfl⟩
    rw [← hF, ← hE] at hgoal
    rw [← hE] at hfl1
    rw [← hF]
    repeat (any_goals (first
    | (rw [oM_indexAddr, hix, rM_ok])
    | (with_reducible ((refine idCond ?_); refine yN ?_))
    | ((with_reducible refine idO ?_); (with_reducible refine oM_gen fun Kv hK=>?_); simp [go_sem, hc]; refine hK _ _ ?_; clear hK; clear Kv)))
    refine qInt_ok _ hP ?_
    intro w4 hb4
    rw [← hE]
    repeat (any_goals ((with_reducible refine idO ?_); (with_reducible refine oM_gen fun Kv hK=>?_); simp [go_sem]; (try simp (disch := omega) only [wrapI64, wrapU8, wrapU32, wrapU64]); (first|refine hK _ _ ?_|refine And.intro (by omega) (hK _ _ ?_)); clear hK; clear Kv))
    exact ⟨hgoal w4 hb4, by simp; omega⟩
  · obtain rfl : j = xs.length := by omega
    rw [List.take_length] at hfl ⊢
    have hfin : ∀ F, F = itoa (xs.length : Nat) ++ 91 :: ((xs.map encInt).flatten) → encList (xs.map encInt) = F ++ [93] ∧ F.length < 2^41 := by
      rintro F rfl
      refine ⟨by simp [encList], ?_⟩
      rw [List.length_append, List.length_cons]; omega
    generalize itoa (xs.length : Nat) ++ 91 :: ((xs.map encInt).flatten) = F at *
    obtain ⟨hf1, hf2⟩ := hfin F rfl
    repeat (any_goals (first
    | (with_reducible ((refine idCond ?_); refine yM ?_))
    | ((with_reducible refine idO ?_); (with_reducible refine oM_gen fun Kv hK=>?_); simp [go_sem]; (first|refine hK _ _ ?_|refine And.intro (by omega) (hK _ _ ?_)); clear hK; clear Kv)))
    exact K_eq (k _ hb3) (by rw [hf1])
end Go.Proofs.Cd
set_option linter.unusedVariables false
set_option maxRecDepth 100000
namespace Go.Proofs
open Go.Sh
def sh_23 (a0 : Value) (a1 : Value) (K : Value → World → Prop) (w : World) : Prop :=
 oM Tryz.prog (.box 35 (.tmp 0)) 0 [a0] (fun v2_1 w =>
 loopM [(.bool false), (.int .i64 0)] w (fun J_2 m_3 l_4 u_l_4 w0_l_4 => (fun w => (
 oM Tryz.prog (.call (Go.Call.mk (.builtin .len) #[(.tmp 0)] #[63])) 3 [a1] (fun v8_5 w =>
 oM Tryz.prog (.binOp .lss 3 (.tmp 0) (.tmp 1) 3) 4 [(l_4.getD 1 undef), v8_5] (fun v9_6 w =>
 condM v9_6
 (oM Tryz.prog (.indexAddr 63 (.tmp 0) (.tmp 1)) 0 [a1, (l_4.getD 1 undef)] (fun v14_7 w =>
 oM Tryz.prog (.load 22 (.tmp 0)) 22 [v14_7] (fun v15_8 w =>
 oM Tryz.prog (.call (Go.Call.mk (.builtin .len) #[(.tmp 0)] #[22])) 3 [v15_8] (fun v16_9 w =>
 oM Tryz.prog (.binOp .gtr 3 (.tmp 0) (.tmp 1) 3) 4 [v16_9, (.int .i64 9)] (fun v17_10 w =>
 condM v17_10
 (K (.bool false) w)
 (oM Tryz.prog (.binOp .add 3 (.tmp 0) (.tmp 1) 3) 3 [(l_4.getD 1 undef), (.int .i64 1)] (fun v11_11 w =>
 J_2 [(l_4.getD 0 undef), v11_11] w ∧ m_3 [(l_4.getD 0 undef), v11_11] w < m_3 l_4 w0_l_4) w)) w) w) w) w)
 (oM Tryz.prog (.fieldAddr 35 (.tmp 0) 1) 0 [v2_1] (fun v18_12 w =>
 oM Tryz.prog (.load 22 (.tmp 0)) 22 [v18_12] (fun v19_13 w =>
 oM Tryz.prog (.call (Go.Call.mk (.builtin .len) #[(.tmp 0)] #[22])) 3 [v19_13] (fun v20_14 w =>
 oM Tryz.prog (.binOp .leq 3 (.tmp 0) (.tmp 1) 3) 4 [v20_14, (.int .i64 9)] (fun v21_15 w =>
 K v21_15 w) w) w) w) w)) w) w)) w0_l_4)) w
theorem sh_23_eq (a0 : Value) (a1 : Value) (K : Value → World → Prop) (w : World) : sh_23 a0 a1 K w = code Tryz.prog (fun _ => 0) 22 (Tryz.f23.body.getD .skip) (slotsAt [a0, a1]) (retK Tryz.prog [.tmp 4] K) w := by kernel_rfl
theorem sh_23_ok {a0 a1 : Value} {K : Value → World → Prop} {w : World} (h : sh_23 a0 a1 K w) : callM Tryz.prog 23 #[a0, a1] K w :=
  calls_of_code (fun _ => 0) (fn := Tryz.f23) (rs := [.tmp 4]) Tryz.func23 rfl rfl (by kernel_rfl) (Nat.le_of_ble_eq_true rfl) ((sh_23_eq a0 a1 K w).mp h)
def sh_24 (a0 : Value) (a1 : Value) (a2 : Value) (a3 : Value) (K : Value → World → Prop) (w : World) : Prop :=
 oM Tryz.prog (.box 35 (.tmp 0)) 0 [a0] (fun v4_1 w =>
 oM Tryz.prog (.alloc 39) 0 [] (fun v8_2 w =>
 oM Tryz.prog (.load 35 (.tmp 0)) 35 [v4_1] (fun v11_3 w =>
 callM Tryz.prog 30 #[v11_3, a2] (fun v13_4 w =>
 oM Tryz.prog (.unOp .not 4 (.tmp 0)) 4 [v13_4] (fun v14_5 w =>
 gdM (gd v14_5 false) (pureM a1) (fun v16_6 w =>
 gdM (gd v14_5 false) (oM Tryz.prog (.fieldAddr 35 (.tmp 0) 0) 0 [v4_1]) (fun v17_7 w =>
 gdM (gd v14_5 false) (oM Tryz.prog (.fieldAddr 33 (.tmp 0) 1) 0 [v17_7]) (fun v18_8 w =>
 gdM (gd v14_5 false) (oM Tryz.prog (.load 3 (.tmp 0)) 3 [v18_8]) (fun v19_9 w =>
 gdM (gd v14_5 false) (oM Tryz.prog (.binOp .sub 3 (.tmp 0) (.tmp 1) 3) 3 [v19_9, (.int .i64 1)]) (fun v20_10 w =>
 gdM (gd v14_5 false) (callM Tryz.prog 84 #[v16_6, (.int .i64 1), v20_10]) (fun v21_11 w =>
 gdM (gd v14_5 false) (oM Tryz.prog (.unOp .not 4 (.tmp 0)) 4 [v21_11]) (fun v22_12 w =>
 oM Tryz.prog (.pick (.tmp 0) (.tmp 1) (.tmp 2)) 4 [v14_5, (.bool true), v22_12] (fun v23_13 w =>
 gdM (gd v23_13 false) (pureM a3) (fun v25_14 w =>
 gdM (gd v23_13 false) (oM Tryz.prog (.fieldAddr 35 (.tmp 0) 0) 0 [v4_1]) (fun v26_15 w =>
 gdM (gd v23_13 false) (oM Tryz.prog (.fieldAddr 33 (.tmp 0) 1) 0 [v26_15]) (fun v27_16 w =>
 gdM (gd v23_13 false) (oM Tryz.prog (.load 3 (.tmp 0)) 3 [v27_16]) (fun v28_17 w =>
 gdM (gd v23_13 false) (oM Tryz.prog (.binOp .sub 3 (.tmp 0) (.tmp 1) 3) 3 [v28_17, (.int .i64 1)]) (fun v29_18 w =>
 gdM (gd v23_13 false) (callM Tryz.prog 84 #[v25_14, (.int .i64 0), v29_18]) (fun v30_19 w =>
 gdM (gd v23_13 false) (oM Tryz.prog (.unOp .not 4 (.tmp 0)) 4 [v30_19]) (fun v31_20 w =>
 oM Tryz.prog (.pick (.tmp 0) (.tmp 1) (.tmp 2)) 4 [v23_13, (.bool true), v31_20] (fun v32_21 w =>
 condM v32_21
 (oM Tryz.prog (.build 39 #[]) 39 [] (fun v33_22 w =>
 oM Tryz.prog (.store 39 (.tmp 0) (.tmp 1)) 0 [v8_2, v33_22] (fun _ w =>
 ∃ r_23, (do loadVar 39 (← asAddr v8_2) : Sem Value).run Tryz.prog w = .ok r_23 w ∧ K (.tuple #[r_23, (.int .i64 1)]) w) w) w)
 (oM Tryz.prog (.load 35 (.tmp 0)) 35 [v4_1] (fun v34_24 w =>
 callM Tryz.prog 28 #[v34_24, a2] (fun v36_25 w =>
 heldM w (fun C_26 w => (((true : Bool) = true) ∧ (oH Tryz.prog (.load 35 (.tmp 0)) 35 [v4_1] C_26 (fun v37_27 =>
 pureH v36_25 C_26 (fun v38_28 =>
 pureH a1 C_26 (fun v39_29 =>
 oH Tryz.prog (.load 35 (.tmp 0)) 35 [v4_1] C_26 (fun v41_30 =>
 oH Tryz.prog (.fieldAddr 35 (.tmp 0) 0) 0 [v4_1] C_26 (fun v42_31 =>
 oH Tryz.prog (.fieldAddr 33 (.tmp 0) 2) 0 [v42_31] C_26 (fun v43_32 =>
 oH Tryz.prog (.load 3 (.tmp 0)) 3 [v43_32] C_26 (fun v44_33 =>
 pureH a3 C_26 (fun v45_34 =>
 oH Tryz.prog (.load 35 (.tmp 0)) 35 [v4_1] C_26 (fun v47_35 =>
 pureH v36_25 C_26 (fun v48_36 =>
 pureH a3 C_26 (fun v49_37 =>
 ∃ S_38 : World → World → Prop, ∃ R_39 : Value → World → Prop, (∀ v w w_1, S_38 w w_1 → R_39 v w → R_39 v w_1) ∧
 (∀ w, C_26 w → (callM Tryz.prog 85 #[v37_27, v38_28, v39_29] (fun v w_1 => C_26 w_1 ∧ S_38 w w_1 ∧ R_39 v w_1) w)) ∧
 (∃ R_40 : Value → World → Prop, (∀ v w w_1, S_38 w w_1 → R_40 v w → R_40 v w_1) ∧
 (∀ w, C_26 w → (callM Tryz.prog 85 #[v41_30, v44_33, v45_34] (fun v w_1 => C_26 w_1 ∧ S_38 w w_1 ∧ R_40 v w_1) w)) ∧
 (∀ w, C_26 w → ∀ v40_41, R_39 v40_41 w → ∀ v46_42, R_40 v46_42 w → (
 callM Tryz.prog 85 #[v47_35, v48_36, v49_37] (fun v50_43 w =>
 oM Tryz.prog (.build 39 #[(0, (.tmp 0)), (1, (.tmp 1)), (2, (.tmp 2))]) 39 [v40_41, v46_42, v50_43] (fun v51_44 w =>
 oM Tryz.prog (.store 39 (.tmp 0) (.tmp 1)) 0 [v8_2, v51_44] (fun _ w =>
 ∃ r_45, (do loadVar 39 (← asAddr v8_2) : Sem Value).run Tryz.prog w = .ok r_45 w ∧ K (.tuple #[r_45, (.int .i64 0)]) w) w) w) w)))))))))))))))))) w) w)) w) w) w) w) w) w) w) w) w) w) w) w) w) w) w) w) w) w) w) w) w
theorem sh_24_eq (a0 : Value) (a1 : Value) (a2 : Value) (a3 : Value) (K : Value → World → Prop) (w : World) : sh_24 a0 a1 a2 a3 K w = code Tryz.prog (fun _ => .free [0, 1, 2, 4, 5, 6, 7, 8, 10, 11, 12] [3, 9] [13, 14, 15, 16]) 52 (Tryz.f24.body.getD .skip) (slotsAt [a0, a1, a2, a3]) (retK Tryz.prog [.cell 8 39, .tmp 9] K) w := by kernel_rfl
theorem sh_24_ok {a0 a1 a2 a3 : Value} {K : Value → World → Prop} {w : World} (h : sh_24 a0 a1 a2 a3 K w) : callM Tryz.prog 24 #[a0, a1, a2, a3] K w :=
  calls_of_code (fun _ => .free [0, 1, 2, 4, 5, 6, 7, 8, 10, 11, 12] [3, 9] [13, 14, 15, 16]) (fn := Tryz.f24) (rs := [.cell 8 39, .tmp 9]) Tryz.func24 rfl rfl (by kernel_rfl) (Nat.le_of_ble_eq_true rfl) ((sh_24_eq a0 a1 a2 a3 K w).mp h)
def sh_25 (a0 : Value) (a1 : Value) (a2 : Value) (a3 : Value) (a4 : Value) (K : Value → World → Prop) (w : World) : Prop :=
 oM Tryz.prog (.box 35 (.tmp 0)) 0 [a0] (fun v5_1 w =>
 oM Tryz.prog (.box 39 (.tmp 0)) 0 [a3] (fun v8_2 w =>
 oM Tryz.prog (.box 28 (.tmp 0)) 0 [a4] (fun v9_3 w =>
 oM Tryz.prog (.load 35 (.tmp 0)) 35 [v5_1] (fun v13_4 w =>
 callM Tryz.prog 30 #[v13_4, a2] (fun v15_5 w =>
 oM Tryz.prog (.unOp .not 4 (.tmp 0)) 4 [v15_5] (fun v16_6 w =>
 gdM (gd v16_6 false) (oM Tryz.prog (.load 35 (.tmp 0)) 35 [v5_1]) (fun v18_7 w =>
 gdM (gd v16_6 false) (pureM a1) (fun v19_8 w =>
 gdM (gd v16_6 false) (callM Tryz.prog 86 #[v18_7, v19_8]) (fun v20_9 w =>
 gdM (gd v16_6 false) (oM Tryz.prog (.unOp .not 4 (.tmp 0)) 4 [v20_9]) (fun v21_10 w =>
 oM Tryz.prog (.pick (.tmp 0) (.tmp 1) (.tmp 2)) 4 [v16_6, (.bool true), v21_10] (fun v22_11 w =>
 condM v22_11
 (K (.tuple #[(.int .i64 0), (.int .i64 1)]) w)
 (oM Tryz.prog (.fieldAddr 35 (.tmp 0) 0) 0 [v5_1] (fun v23_12 w =>
 oM Tryz.prog (.load 33 (.tmp 0)) 33 [v23_12] (fun v24_13 w =>
 oM Tryz.prog (.fieldAddr 39 (.tmp 0) 0) 0 [v8_2] (fun v25_14 w =>
 oM Tryz.prog (.load 3 (.tmp 0)) 3 [v25_14] (fun v26_15 w =>
 callM Tryz.prog 87 #[v24_13, v26_15] (fun v27_16 w =>
 oM Tryz.prog (.unOp .not 4 (.tmp 0)) 4 [v27_16] (fun v28_17 w =>
 gdM (gd v28_17 false) (oM Tryz.prog (.fieldAddr 35 (.tmp 0) 0) 0 [v5_1]) (fun v30_18 w =>
 gdM (gd v28_17 false) (oM Tryz.prog (.load 33 (.tmp 0)) 33 [v30_18]) (fun v31_19 w =>
 gdM (gd v28_17 false) (oM Tryz.prog (.fieldAddr 39 (.tmp 0) 1) 0 [v8_2]) (fun v32_20 w =>
 gdM (gd v28_17 false) (oM Tryz.prog (.load 3 (.tmp 0)) 3 [v32_20]) (fun v33_21 w =>
 gdM (gd v28_17 false) (callM Tryz.prog 87 #[v31_19, v33_21]) (fun v34_22 w =>
 gdM (gd v28_17 false) (oM Tryz.prog (.unOp .not 4 (.tmp 0)) 4 [v34_22]) (fun v35_23 w =>
 oM Tryz.prog (.pick (.tmp 0) (.tmp 1) (.tmp 2)) 4 [v28_17, (.bool true), v35_23] (fun v36_24 w =>
 gdM (gd v36_24 false) (oM Tryz.prog (.fieldAddr 35 (.tmp 0) 0) 0 [v5_1]) (fun v38_25 w =>
 gdM (gd v36_24 false) (oM Tryz.prog (.load 33 (.tmp 0)) 33 [v38_25]) (fun v39_26 w =>
 gdM (gd v36_24 false) (oM Tryz.prog (.fieldAddr 39 (.tmp 0) 2) 0 [v8_2]) (fun v40_27 w =>
 gdM (gd v36_24 false) (oM Tryz.prog (.load 3 (.tmp 0)) 3 [v40_27]) (fun v41_28 w =>
 gdM (gd v36_24 false) (callM Tryz.prog 87 #[v39_26, v41_28]) (fun v42_29 w =>
 gdM (gd v36_24 false) (oM Tryz.prog (.unOp .not 4 (.tmp 0)) 4 [v42_29]) (fun v43_30 w =>
 oM Tryz.prog (.pick (.tmp 0) (.tmp 1) (.tmp 2)) 4 [v36_24, (.bool true), v43_30] (fun v44_31 w =>
 gdM (gd v44_31 false) (oM Tryz.prog (.fieldAddr 39 (.tmp 0) 0) 0 [v8_2]) (fun v46_32 w =>
 gdM (gd v44_31 false) (oM Tryz.prog (.load 3 (.tmp 0)) 3 [v46_32]) (fun v47_33 w =>
 gdM (gd v44_31 false) (oM Tryz.prog (.binOp .eql 3 (.tmp 0) (.const (.int .i64 1)) 3) 4 [v47_33]) (fun v48_34 w =>
 oM Tryz.prog (.pick (.tmp 0) (.tmp 1) (.tmp 2)) 4 [v44_31, (.bool true), v48_34] (fun v49_35 w =>
 gdM (gd v49_35 false) (oM Tryz.prog (.load 35 (.tmp 0)) 35 [v5_1]) (fun v51_36 w =>
 gdM (gd v49_35 false) (oM Tryz.prog (.load 28 (.tmp 0)) 28 [v9_3]) (fun v52_37 w =>
 gdM (gd v49_35 false) (callM Tryz.prog 88 #[v51_36, v52_37]) (fun v53_38 w =>
 gdM (gd v49_35 false) (oM Tryz.prog (.unOp .not 4 (.tmp 0)) 4 [v53_38]) (fun v54_39 w =>
 oM Tryz.prog (.pick (.tmp 0) (.tmp 1) (.tmp 2)) 4 [v49_35, (.bool true), v54_39] (fun v55_40 w =>
 condM v55_40
 (K (.tuple #[(.int .i64 0), (.int .i64 1)]) w)
 (heldM w (fun C_41 w => (((true : Bool) = true) ∧ (oH Tryz.prog (.load 35 (.tmp 0)) 35 [v5_1] C_41 (fun v56_42 =>
 oH Tryz.prog (.load 35 (.tmp 0)) 35 [v5_1] C_41 (fun v57_43 =>
 pureH a2 C_41 (fun v58_44 =>
 oH Tryz.prog (.load 39 (.tmp 0)) 39 [v8_2] C_41 (fun v59_45 =>
 oH Tryz.prog (.load 28 (.tmp 0)) 28 [v9_3] C_41 (fun v60_46 =>
 ∃ S_47 : World → World → Prop, ∃ R_48 : Value → World → Prop, (∀ v w w_1, S_47 w w_1 → R_48 v w → R_48 v w_1) ∧
 (∀ w, C_41 w → (callM Tryz.prog 90 #[v57_43, v58_44, v59_45, v60_46] (fun v w_1 => C_41 w_1 ∧ S_47 w w_1 ∧ R_48 v w_1) w)) ∧
 (∀ w, C_41 w → ∀ v61_49, R_48 v61_49 w → (
 callM Tryz.prog 89 #[v56_42, v61_49] (fun v62_50 w =>
 oM Tryz.prog (.binOp .eql 3 (.tmp 0) (.const (.int .i64 0)) 3) 4 [v62_50] (fun v64_51 w =>
 condM v64_51
 (K (.tuple #[(.int .i64 0), (.int .i64 7)]) w)
 (oM Tryz.prog (.load 35 (.tmp 0)) 35 [v5_1] (fun v65_52 w =>
 oM Tryz.prog (.fieldAddr 28 (.tmp 0) 1) 0 [v9_3] (fun v67_53 w =>
 oM Tryz.prog (.load 3 (.tmp 0)) 3 [v67_53] (fun v68_54 w =>
 callM Tryz.prog 91 #[v65_52, v62_50, v68_54] (fun v69_55 w =>
 K (.tuple #[v69_55, (.int .i64 0)]) w) w) w) w) w)) w) w)))))))))))) w) w) w) w) w) w) w) w) w) w) w) w) w) w) w) w) w) w) w) w) w) w) w) w) w) w) w) w) w)) w) w) w) w) w) w) w) w) w) w) w
theorem sh_25_eq (a0 : Value) (a1 : Value) (a2 : Value) (a3 : Value) (a4 : Value) (K : Value → World → Prop) (w : World) : sh_25 a0 a1 a2 a3 a4 K w = code Tryz.prog (fun _ => .free [0, 1, 2, 3, 4] [5] [6, 7]) 70 (Tryz.f25.body.getD .skip) (slotsAt [a0, a1, a2, a3, a4]) (retK Tryz.prog [.tmp 10, .tmp 11] K) w := by kernel_rfl
theorem sh_25_ok {a0 a1 a2 a3 a4 : Value} {K : Value → World → Prop} {w : World} (h : sh_25 a0 a1 a2 a3 a4 K w) : callM Tryz.prog 25 #[a0, a1, a2, a3, a4] K w :=
  calls_of_code (fun _ => .free [0, 1, 2, 3, 4] [5] [6, 7]) (fn := Tryz.f25) (rs := [.tmp 10, .tmp 11]) Tryz.func25 rfl rfl (by kernel_rfl) (Nat.le_of_ble_eq_true rfl) ((sh_25_eq a0 a1 a2 a3 a4 K w).mp h)
def sh_26 (a0 : Value) (a1 : Value) (a2 : Value) (a3 : Value) (a4 : Value) (a5 : Value) (K : Value → World → Prop) (w : World) : Prop :=
 oM Tryz.prog (.box 35 (.tmp 0)) 0 [a0] (fun v6_1 w =>
 oM Tryz.prog (.box 39 (.tmp 0)) 0 [a3] (fun v9_2 w =>
 oM Tryz.prog (.box 28 (.tmp 0)) 0 [a4] (fun v10_3 w =>
 oM Tryz.prog (.alloc 43) 0 [] (fun v12_4 w =>
 oM Tryz.prog (.load 35 (.tmp 0)) 35 [v6_1] (fun v20_5 w =>
 oM Tryz.prog (.load 39 (.tmp 0)) 39 [v9_2] (fun v23_6 w =>
 oM Tryz.prog (.load 28 (.tmp 0)) 28 [v10_3] (fun v24_7 w =>
 callM Tryz.prog 25 #[v20_5, a1, a2, v23_6, v24_7] (fun v25_8 w =>
 oM Tryz.prog (.extract (.tmp 0) 0) 3 [v25_8] (fun v26_9 w =>
 oM Tryz.prog (.extract (.tmp 0) 1) 50 [v25_8] (fun v27_10 w =>
 oM Tryz.prog (.binOp .neq 50 (.tmp 0) (.const (.int .i64 0)) 50) 4 [v27_10] (fun v29_11 w =>
 condM v29_11
 (oM Tryz.prog (.build 43 #[]) 43 [] (fun v30_12 w =>
 oM Tryz.prog (.store 43 (.tmp 0) (.tmp 1)) 0 [v12_4, v30_12] (fun _ w =>
 ∃ r_13, (do loadVar 43 (← asAddr v12_4) : Sem Value).run Tryz.prog w = .ok r_13 w ∧ K (.tuple #[r_13, v27_10]) w) w) w)
 (oM Tryz.prog (.fieldAddr 35 (.tmp 0) 0) 0 [v6_1] (fun v33_14 w =>
 oM Tryz.prog (.fieldAddr 33 (.tmp 0) 1) 0 [v33_14] (fun v34_15 w =>
 oM Tryz.prog (.load 3 (.tmp 0)) 3 [v34_15] (fun v35_16 w =>
 oM Tryz.prog (.binOp .sub 3 (.tmp 0) (.tmp 1) 3) 3 [v35_16, (.int .i64 1)] (fun v36_17 w =>
 callM Tryz.prog 84 #[a5, (.int .i64 0), v36_17] (fun v37_18 w =>
 oM Tryz.prog (.unOp .not 4 (.tmp 0)) 4 [v37_18] (fun v38_19 w =>
 condM v38_19
 (oM Tryz.prog (.build 43 #[]) 43 [] (fun v39_20 w =>
 oM Tryz.prog (.store 43 (.tmp 0) (.tmp 1)) 0 [v12_4, v39_20] (fun _ w =>
 ∃ r_21, (do loadVar 43 (← asAddr v12_4) : Sem Value).run Tryz.prog w = .ok r_21 w ∧ K (.tuple #[r_21, (.int .i64 1)]) w) w) w)
 (heldM w (fun C_22 w => (((true : Bool) = true) ∧ (oH Tryz.prog (.load 35 (.tmp 0)) 35 [v6_1] C_22 (fun v40_23 =>
 oH Tryz.prog (.fieldAddr 35 (.tmp 0) 0) 0 [v6_1] C_22 (fun v41_24 =>
 oH Tryz.prog (.fieldAddr 33 (.tmp 0) 2) 0 [v41_24] C_22 (fun v42_25 =>
 oH Tryz.prog (.load 3 (.tmp 0)) 3 [v42_25] C_22 (fun v43_26 =>
 pureH a5 C_22 (fun v44_27 =>
 oH Tryz.prog (.load 35 (.tmp 0)) 35 [v6_1] C_22 (fun v46_28 =>
 oH Tryz.prog (.load 35 (.tmp 0)) 35 [v6_1] C_22 (fun v47_29 =>
 pureH a1 C_22 (fun v48_30 =>
 pureH v26_9 C_22 (fun v49_31 =>
 oH Tryz.prog (.fieldAddr 39 (.tmp 0) 1) 0 [v9_2] C_22 (fun v51_32 =>
 oH Tryz.prog (.load 3 (.tmp 0)) 3 [v51_32] C_22 (fun v52_33 =>
 ∃ S_34 : World → World → Prop, ∃ R_35 : Value → World → Prop, (∀ v w w_1, S_34 w w_1 → R_35 v w → R_35 v w_1) ∧
 (∀ w, C_22 w → (callM Tryz.prog 85 #[v40_23, v43_26, v44_27] (fun v w_1 => C_22 w_1 ∧ S_34 w w_1 ∧ R_35 v w_1) w)) ∧
 (∃ R_36 : Value → World → Prop, (∀ v w w_1, S_34 w w_1 → R_36 v w → R_36 v w_1) ∧
 (∀ w, C_22 w → (callM Tryz.prog 85 #[v47_29, v48_30, v49_31] (fun v w_1 => C_22 w_1 ∧ S_34 w w_1 ∧ R_36 v w_1) w)) ∧
 (∀ w, C_22 w → ∀ v45_37, R_35 v45_37 w → ∀ v50_38, R_36 v50_38 w → (
 callM Tryz.prog 92 #[v46_28, v50_38, v52_33] (fun v53_39 w =>
 oM Tryz.prog (.binOp .eql 3 (.tmp 0) (.tmp 1) 3) 4 [v45_37, v53_39] (fun v54_40 w =>
 heldM w (fun C_41 w => (((true : Bool) = true) ∧ (oH Tryz.prog (.load 35 (.tmp 0)) 35 [v6_1] C_41 (fun v55_42 =>
 oH Tryz.prog (.load 35 (.tmp 0)) 35 [v6_1] C_41 (fun v56_43 =>
 pureH a2 C_41 (fun v57_44 =>
 pureH a5 C_41 (fun v59_45 =>
 oH Tryz.prog (.load 35 (.tmp 0)) 35 [v6_1] C_41 (fun v61_46 =>
 oH Tryz.prog (.load 35 (.tmp 0)) 35 [v6_1] C_41 (fun v62_47 =>
 oH Tryz.prog (.fieldAddr 39 (.tmp 0) 0) 0 [v9_2] C_41 (fun v63_48 =>
 oH Tryz.prog (.load 3 (.tmp 0)) 3 [v63_48] C_41 (fun v64_49 =>
 pureH v26_9 C_41 (fun v65_50 =>
 oH Tryz.prog (.fieldAddr 39 (.tmp 0) 2) 0 [v9_2] C_41 (fun v67_51 =>
 oH Tryz.prog (.load 3 (.tmp 0)) 3 [v67_51] C_41 (fun v68_52 =>
 ∃ S_53 : World → World → Prop, ∃ R_54 : Value → World → Prop, (∀ v w w_1, S_53 w w_1 → R_54 v w → R_54 v w_1) ∧
 (∀ w, C_41 w → (callM Tryz.prog 28 #[v56_43, v57_44] (fun v w_1 => C_41 w_1 ∧ S_53 w w_1 ∧ R_54 v w_1) w)) ∧
 (∃ R_55 : Value → World → Prop, (∀ v w w_1, S_53 w w_1 → R_55 v w → R_55 v w_1) ∧
 (∀ w, C_41 w → ∀ v58_56, R_54 v58_56 w → (callM Tryz.prog 85 #[v55_42, v58_56, v59_45] (fun v w_1 => C_41 w_1 ∧ S_53 w w_1 ∧ R_55 v w_1) w)) ∧
 (∃ R_57 : Value → World → Prop, (∀ v w w_1, S_53 w w_1 → R_57 v w → R_57 v w_1) ∧
 (∀ w, C_41 w → (callM Tryz.prog 85 #[v62_47, v64_49, v65_50] (fun v w_1 => C_41 w_1 ∧ S_53 w w_1 ∧ R_57 v w_1) w)) ∧
 (∀ w, C_41 w → ∀ v58_58, R_54 v58_58 w → ∀ v60_59, R_55 v60_59 w → ∀ v66_60, R_57 v66_60 w → (
 callM Tryz.prog 92 #[v61_46, v66_60, v68_52] (fun v69_61 w =>
 oM Tryz.prog (.binOp .eql 3 (.tmp 0) (.tmp 1) 3) 4 [v60_59, v69_61] (fun v70_62 w =>
 oM Tryz.prog (.unOp .not 4 (.tmp 0)) 4 [v54_40] (fun v72_63 w =>
 gdM (gd v72_63 false) (pureM v70_62) (fun v74_64 w =>
 gdM (gd v72_63 false) (oM Tryz.prog (.unOp .not 4 (.tmp 0)) 4 [v74_64]) (fun v75_65 w =>
 oM Tryz.prog (.pick (.tmp 0) (.tmp 1) (.tmp 2)) 4 [v72_63, (.bool true), v75_65] (fun v76_66 w =>
 condM v76_66
 (oM Tryz.prog (.build 43 #[]) 43 [] (fun v77_67 w =>
 oM Tryz.prog (.store 43 (.tmp 0) (.tmp 1)) 0 [v12_4, v77_67] (fun _ w =>
 ∃ r_68, (do loadVar 43 (← asAddr v12_4) : Sem Value).run Tryz.prog w = .ok r_68 w ∧ K (.tuple #[r_68, (.int .i64 14)]) w) w) w)
 (oM Tryz.prog (.load 35 (.tmp 0)) 35 [v6_1] (fun v78_69 w =>
 oM Tryz.prog (.load 39 (.tmp 0)) 39 [v9_2] (fun v80_70 w =>
 oM Tryz.prog (.load 28 (.tmp 0)) 28 [v10_3] (fun v81_71 w =>
 callM Tryz.prog 90 #[v78_69, a2, v80_70, v81_71] (fun v82_72 w =>
 oM Tryz.prog (.alloc 43) 0 [] (fun v18_73 w =>
 oM Tryz.prog (.store 43 (.tmp 0) (.tmp 1)) 0 [v18_73, v82_72] (fun _ w =>
 heldM w (fun C_74 w => (((true : Bool) = true) ∧ (oH Tryz.prog (.fieldAddr 35 (.tmp 0) 0) 0 [v6_1] C_74 (fun v83_75 =>
 oH Tryz.prog (.fieldAddr 33 (.tmp 0) 1) 0 [v83_75] C_74 (fun v84_76 =>
 oH Tryz.prog (.load 3 (.tmp 0)) 3 [v84_76] C_74 (fun v85_77 =>
 oH Tryz.prog (.load 35 (.tmp 0)) 35 [v6_1] C_74 (fun v86_78 =>
 pureH a5 C_74 (fun v87_79 =>
 oH Tryz.prog (.fieldAddr 28 (.tmp 0) 1) 0 [v10_3] C_74 (fun v88_80 =>
 oH Tryz.prog (.load 3 (.tmp 0)) 3 [v88_80] C_74 (fun v89_81 =>
 oH Tryz.prog (.fieldAddr 28 (.tmp 0) 2) 0 [v10_3] C_74 (fun v91_82 =>
 oH Tryz.prog (.load 3 (.tmp 0)) 3 [v91_82] C_74 (fun v92_83 =>
 ∃ S_84 : World → World → Prop, ∃ R_85 : Value → World → Prop, (∀ v w w_1, S_84 w w_1 → R_85 v w → R_85 v w_1) ∧
 (∀ w, C_74 w → (callM Tryz.prog 94 #[v86_78, v87_79, v89_81] (fun v w_1 => C_74 w_1 ∧ S_84 w w_1 ∧ R_85 v w_1) w)) ∧
 (∀ w, C_74 w → ∀ v90_86, R_85 v90_86 w → (
 callM Tryz.prog 93 #[v85_77, v90_86, v92_83] (fun v93_87 w =>
 oM Tryz.prog (.fieldAddr 43 (.tmp 0) 5) 0 [v18_73] (fun v94_88 w =>
 oM Tryz.prog (.store 3 (.tmp 0) (.tmp 1)) 0 [v94_88, v93_87] (fun _ w =>
 oM Tryz.prog (.load 43 (.tmp 0)) 43 [v18_73] (fun v95_89 w =>
 oM Tryz.prog (.store 43 (.tmp 0) (.tmp 1)) 0 [v12_4, v95_89] (fun _ w =>
 ∃ r_90, (do loadVar 43 (← asAddr v12_4) : Sem Value).run Tryz.prog w = .ok r_90 w ∧ K (.tuple #[r_90, (.int .i64 0)]) w) w) w) w) w) w))))))))))))))) w) w) w) w) w) w)) w) w) w) w) w) w))))))))))))))))))) w) w))))))))))))))))))) w) w) w) w) w) w)) w) w) w) w) w) w) w) w) w) w) w
theorem sh_26_eq (a0 : Value) (a1 : Value) (a2 : Value) (a3 : Value) (a4 : Value) (a5 : Value) (K : Value → World → Prop) (w : World) : sh_26 a0 a1 a2 a3 a4 a5 K w = code Tryz.prog (fun i => bif Nat.beq i 6 then .free [0, 1, 2, 3, 4, 6, 7, 8, 9, 11, 12] [5, 10] [13, 14, 15] else bif Nat.beq i 7 then .free [0, 1, 2, 4, 6, 7, 8, 9, 10, 12, 13] [3, 5, 11] [14, 15, 16] else bif Nat.beq i 11 then .free [0, 1, 2, 3, 4, 5, 6, 8, 9] [7] [10, 11, 12] else 0) 96 (Tryz.f26.body.getD .skip) (slotsAt [a0, a1, a2, a3, a4, a5]) (retK Tryz.prog [.cell 12 43, .tmp 13] K) w := by kernel_rfl
theorem sh_26_ok {a0 a1 a2 a3 a4 a5 : Value} {K : Value → World → Prop} {w : World} (h : sh_26 a0 a1 a2 a3 a4 a5 K w) : callM Tryz.prog 26 #[a0, a1, a2, a3, a4, a5] K w :=
  calls_of_code (fun i => bif Nat.beq i 6 then .free [0, 1, 2, 3, 4, 6, 7, 8, 9, 11, 12] [5, 10] [13, 14, 15] else bif Nat.beq i 7 then .free [0, 1, 2, 4, 6, 7, 8, 9, 10, 12, 13] [3, 5, 11] [14, 15, 16] else bif Nat.beq i 11 then .free [0, 1, 2, 3, 4, 5, 6, 8, 9] [7] [10, 11, 12] else 0) (fn := Tryz.f26) (rs := [.cell 12 43, .tmp 13]) Tryz.func26 rfl rfl (by kernel_rfl) (Nat.le_of_ble_eq_true rfl) ((sh_26_eq a0 a1 a2 a3 a4 a5 K w).mp h)
def sh_28 (a0 : Value) (a1 : Value) (K : Value → World → Prop) (w : World) : Prop :=
 oM Tryz.prog (.box 35 (.tmp 0)) 0 [a0] (fun v2_1 w =>
 oM Tryz.prog (.load 35 (.tmp 0)) 35 [v2_1] (fun v5_2 w =>
 callM Tryz.prog 96 #[v5_2, a1] (fun v7_3 w =>
 oM Tryz.prog (.unOp .not 4 (.tmp 0)) 4 [v7_3] (fun v8_4 w =>
 condM v8_4
 (K (.int .i64 0) w)
 (heldM w (fun C_5 w => (((true : Bool) = true) ∧ (oH Tryz.prog (.load 35 (.tmp 0)) 35 [v2_1] C_5 (fun v9_6 =>
 pureH a1 C_5 (fun v10_7 =>
 ∃ S_8 : World → World → Prop, ∃ R_9 : Value → World → Prop, (∀ v w w_1, S_8 w w_1 → R_9 v w → R_9 v w_1) ∧
 (∀ w, C_5 w → (callM Tryz.prog 98 #[v10_7] (fun v w_1 => C_5 w_1 ∧ S_8 w w_1 ∧ R_9 v w_1) w)) ∧
 (∀ w, C_5 w → ∀ v11_10, R_9 v11_10 w → (
 callM Tryz.prog 97 #[v9_6, v11_10] (fun v12_11 w =>
 K v12_11 w) w))))))))) w) w) w) w
theorem sh_28_eq (a0 : Value) (a1 : Value) (K : Value → World → Prop) (w : World) : sh_28 a0 a1 K w = code Tryz.prog (fun _ => .free [0, 1] [2] [3, 4]) 13 (Tryz.f28.body.getD .skip) (slotsAt [a0, a1]) (retK Tryz.prog [.tmp 4] K) w := by kernel_rfl
theorem sh_28_ok {a0 a1 : Value} {K : Value → World → Prop} {w : World} (h : sh_28 a0 a1 K w) : callM Tryz.prog 28 #[a0, a1] K w :=
  calls_of_code (fun _ => .free [0, 1] [2] [3, 4]) (fn := Tryz.f28) (rs := [.tmp 4]) Tryz.func28 rfl rfl (by kernel_rfl) (Nat.le_of_ble_eq_true rfl) ((sh_28_eq a0 a1 K w).mp h)
def sh_30 (a0 : Value) (a1 : Value) (K : Value → World → Prop) (w : World) : Prop :=
 oM Tryz.prog (.box 35 (.tmp 0)) 0 [a0] (fun v2_1 w =>
 oM Tryz.prog (.load 35 (.tmp 0)) 35 [v2_1] (fun v5_2 w =>
 callM Tryz.prog 96 #[v5_2, a1] (fun v7_3 w =>
 gdM (gd v7_3 true) (oM Tryz.prog (.load 35 (.tmp 0)) 35 [v2_1]) (fun v9_4 w =>
 gdM (gd v7_3 true) (pureM a1) (fun v10_5 w =>
 gdM (gd v7_3 true) (callM Tryz.prog 28 #[v9_4, v10_5]) (fun v11_6 w =>
 gdM (gd v7_3 true) (oM Tryz.prog (.binOp .neq 3 (.tmp 0) (.const (.int .i64 1)) 3) 4 [v11_6]) (fun v12_7 w =>
 oM Tryz.prog (.pick (.tmp 0) (.tmp 1) (.tmp 2)) 4 [v7_3, v12_7, (.bool false)] (fun v13_8 w =>
 K v13_8 w) w) w) w) w) w) w) w) w
theorem sh_30_eq (a0 : Value) (a1 : Value) (K : Value → World → Prop) (w : World) : sh_30 a0 a1 K w = code Tryz.prog (fun _ => 0) 14 (Tryz.f30.body.getD .skip) (slotsAt [a0, a1]) (retK Tryz.prog [.tmp 4] K) w := by kernel_rfl
theorem sh_30_ok {a0 a1 : Value} {K : Value → World → Prop} {w : World} (h : sh_30 a0 a1 K w) : callM Tryz.prog 30 #[a0, a1] K w :=
  calls_of_code (fun _ => 0) (fn := Tryz.f30) (rs := [.tmp 4]) Tryz.func30 rfl rfl (by kernel_rfl) (Nat.le_of_ble_eq_true rfl) ((sh_30_eq a0 a1 K w).mp h)
def sh_31 (a0 : Value) (a1 : Value) (K : Value → World → Prop) (w : World) : Prop :=
 oM Tryz.prog (.box 35 (.tmp 0)) 0 [a0] (fun v2_1 w =>
 oM Tryz.prog (.load 35 (.tmp 0)) 35 [v2_1] (fun v5_2 w =>
 callM Tryz.prog 99 #[v5_2] (fun v6_3 w =>
 oM Tryz.prog (.unOp .not 4 (.tmp 0)) 4 [v6_3] (fun v7_4 w =>
 gdM (gd v7_4 false) (pureM a1) (fun v9_5 w =>
 gdM (gd v7_4 false) (oM Tryz.prog (.fieldAddr 35 (.tmp 0) 0) 0 [v2_1]) (fun v10_6 w =>
 gdM (gd v7_4 false) (oM Tryz.prog (.fieldAddr 33 (.tmp 0) 1) 0 [v10_6]) (fun v11_7 w =>
 gdM (gd v7_4 false) (oM Tryz.prog (.load 3 (.tmp 0)) 3 [v11_7]) (fun v12_8 w =>
 gdM (gd v7_4 false) (oM Tryz.prog (.binOp .sub 3 (.tmp 0) (.tmp 1) 3) 3 [v12_8, (.int .i64 1)]) (fun v13_9 w =>
 gdM (gd v7_4 false) (callM Tryz.prog 84 #[v9_5, (.int .i64 1), v13_9]) (fun v14_10 w =>
 gdM (gd v7_4 false) (oM Tryz.prog (.unOp .not 4 (.tmp 0)) 4 [v14_10]) (fun v15_11 w =>
 oM Tryz.prog (.pick (.tmp 0) (.tmp 1) (.tmp 2)) 4 [v7_4, (.bool true), v15_11] (fun v16_12 w =>
 condM v16_12
 (K (.int .i64 0) w)
 (oM Tryz.prog (.load 35 (.tmp 0)) 35 [v2_1] (fun v17_13 w =>
 oM Tryz.prog (.fieldAddr 35 (.tmp 0) 0) 0 [v2_1] (fun v18_14 w =>
 oM Tryz.prog (.fieldAddr 33 (.tmp 0) 2) 0 [v18_14] (fun v19_15 w =>
 oM Tryz.prog (.load 3 (.tmp 0)) 3 [v19_15] (fun v20_16 w =>
 callM Tryz.prog 85 #[v17_13, v20_16, a1] (fun v22_17 w =>
 K v22_17 w) w) w) w) w) w)) w) w) w) w) w) w) w) w) w) w) w) w
theorem sh_31_eq (a0 : Value) (a1 : Value) (K : Value → World → Prop) (w : World) : sh_31 a0 a1 K w = code Tryz.prog (fun _ => 0) 23 (Tryz.f31.body.getD .skip) (slotsAt [a0, a1]) (retK Tryz.prog [.tmp 4] K) w := by kernel_rfl
theorem sh_31_ok {a0 a1 : Value} {K : Value → World → Prop} {w : World} (h : sh_31 a0 a1 K w) : callM Tryz.prog 31 #[a0, a1] K w :=
  calls_of_code (fun _ => 0) (fn := Tryz.f31) (rs := [.tmp 4]) Tryz.func31 rfl rfl (by kernel_rfl) (Nat.le_of_ble_eq_true rfl) ((sh_31_eq a0 a1 K w).mp h)
def sh_32 (a0 : Value) (a1 : Value) (a2 : Value) (a3 : Value) (K : Value → World → Prop) (w : World) : Prop :=
 oM Tryz.prog (.box 35 (.tmp 0)) 0 [a0] (fun v4_1 w =>
 oM Tryz.prog (.load 35 (.tmp 0)) 35 [v4_1] (fun v9_2 w =>
 callM Tryz.prog 99 #[v9_2] (fun v10_3 w =>
 oM Tryz.prog (.unOp .not 4 (.tmp 0)) 4 [v10_3] (fun v11_4 w =>
 gdM (gd v11_4 false) (pureM a1) (fun v13_5 w =>
 gdM (gd v11_4 false) (oM Tryz.prog (.fieldAddr 35 (.tmp 0) 0) 0 [v4_1]) (fun v14_6 w =>
 gdM (gd v11_4 false) (oM Tryz.prog (.fieldAddr 33 (.tmp 0) 1) 0 [v14_6]) (fun v15_7 w =>
 gdM (gd v11_4 false) (oM Tryz.prog (.load 3 (.tmp 0)) 3 [v15_7]) (fun v16_8 w =>
 gdM (gd v11_4 false) (oM Tryz.prog (.binOp .sub 3 (.tmp 0) (.tmp 1) 3) 3 [v16_8, (.int .i64 1)]) (fun v17_9 w =>
 gdM (gd v11_4 false) (callM Tryz.prog 84 #[v13_5, (.int .i64 1), v17_9]) (fun v18_10 w =>
 gdM (gd v11_4 false) (oM Tryz.prog (.unOp .not 4 (.tmp 0)) 4 [v18_10]) (fun v19_11 w =>
 oM Tryz.prog (.pick (.tmp 0) (.tmp 1) (.tmp 2)) 4 [v11_4, (.bool true), v19_11] (fun v20_12 w =>
 gdM (gd v20_12 false) (pureM a2) (fun v22_13 w =>
 gdM (gd v20_12 false) (oM Tryz.prog (.fieldAddr 35 (.tmp 0) 0) 0 [v4_1]) (fun v23_14 w =>
 gdM (gd v20_12 false) (oM Tryz.prog (.fieldAddr 33 (.tmp 0) 1) 0 [v23_14]) (fun v24_15 w =>
 gdM (gd v20_12 false) (oM Tryz.prog (.load 3 (.tmp 0)) 3 [v24_15]) (fun v25_16 w =>
 gdM (gd v20_12 false) (oM Tryz.prog (.binOp .sub 3 (.tmp 0) (.tmp 1) 3) 3 [v25_16, (.int .i64 1)]) (fun v26_17 w =>
 gdM (gd v20_12 false) (callM Tryz.prog 84 #[v22_13, (.int .i64 0), v26_17]) (fun v27_18 w =>
 gdM (gd v20_12 false) (oM Tryz.prog (.unOp .not 4 (.tmp 0)) 4 [v27_18]) (fun v28_19 w =>
 oM Tryz.prog (.pick (.tmp 0) (.tmp 1) (.tmp 2)) 4 [v20_12, (.bool true), v28_19] (fun v29_20 w =>
 gdM (gd v29_20 false) (pureM a3) (fun v31_21 w =>
 gdM (gd v29_20 false) (oM Tryz.prog (.fieldAddr 35 (.tmp 0) 0) 0 [v4_1]) (fun v32_22 w =>
 gdM (gd v29_20 false) (oM Tryz.prog (.fieldAddr 33 (.tmp 0) 1) 0 [v32_22]) (fun v33_23 w =>
 gdM (gd v29_20 false) (oM Tryz.prog (.load 3 (.tmp 0)) 3 [v33_23]) (fun v34_24 w =>
 gdM (gd v29_20 false) (oM Tryz.prog (.binOp .sub 3 (.tmp 0) (.tmp 1) 3) 3 [v34_24, (.int .i64 1)]) (fun v35_25 w =>
 gdM (gd v29_20 false) (callM Tryz.prog 84 #[v31_21, (.int .i64 0), v35_25]) (fun v36_26 w =>
 gdM (gd v29_20 false) (oM Tryz.prog (.unOp .not 4 (.tmp 0)) 4 [v36_26]) (fun v37_27 w =>
 oM Tryz.prog (.pick (.tmp 0) (.tmp 1) (.tmp 2)) 4 [v29_20, (.bool true), v37_27] (fun v38_28 w =>
 condM v38_28
 (K (.int .i64 0) w)
 (heldM w (fun C_29 w => (((true : Bool) = true) ∧ (oH Tryz.prog (.fieldAddr 35 (.tmp 0) 0) 0 [v4_1] C_29 (fun v39_30 =>
 oH Tryz.prog (.fieldAddr 33 (.tmp 0) 1) 0 [v39_30] C_29 (fun v40_31 =>
 oH Tryz.prog (.load 3 (.tmp 0)) 3 [v40_31] C_29 (fun v41_32 =>
 oH Tryz.prog (.load 35 (.tmp 0)) 35 [v4_1] C_29 (fun v42_33 =>
 pureH a3 C_29 (fun v43_34 =>
 pureH a1 C_29 (fun v44_35 =>
 pureH a2 C_29 (fun v46_36 =>
 ∃ S_37 : World → World → Prop, ∃ R_38 : Value → World → Prop, (∀ v w w_1, S_37 w w_1 → R_38 v w → R_38 v w_1) ∧
 (∀ w, C_29 w → (callM Tryz.prog 94 #[v42_33, v43_34, v44_35] (fun v w_1 => C_29 w_1 ∧ S_37 w w_1 ∧ R_38 v w_1) w)) ∧
 (∀ w, C_29 w → ∀ v45_39, R_38 v45_39 w → (
 callM Tryz.prog 93 #[v41_32, v45_39, v46_36] (fun v47_40 w =>
 K v47_40 w) w)))))))))))))) w) w) w) w) w) w) w) w) w) w) w) w) w) w) w) w) w) w) w) w) w) w) w) w) w) w) w) w
theorem sh_32_eq (a0 : Value) (a1 : Value) (a2 : Value) (a3 : Value) (K : Value → World → Prop) (w : World) : sh_32 a0 a1 a2 a3 K w = code Tryz.prog (fun _ => .free [0, 1, 2, 3, 4, 5, 7] [6] [8, 9]) 48 (Tryz.f32.body.getD .skip) (slotsAt [a0, a1, a2, a3]) (retK Tryz.prog [.tmp 8] K) w := by kernel_rfl
theorem sh_32_ok {a0 a1 a2 a3 : Value} {K : Value → World → Prop} {w : World} (h : sh_32 a0 a1 a2 a3 K w) : callM Tryz.prog 32 #[a0, a1, a2, a3] K w :=
  calls_of_code (fun _ => .free [0, 1, 2, 3, 4, 5, 7] [6] [8, 9]) (fn := Tryz.f32) (rs := [.tmp 8]) Tryz.func32 rfl rfl (by kernel_rfl) (Nat.le_of_ble_eq_true rfl) ((sh_32_eq a0 a1 a2 a3 K w).mp h)
def sh_84 (a0 : Value) (a1 : Value) (a2 : Value) (K : Value → World → Prop) (w : World) : Prop :=
 oM Tryz.prog (.binOp .geq 3 (.tmp 0) (.tmp 1) 3) 4 [a0, a1] (fun v9_1 w =>
 gdM (gd v9_1 true) (pureM a0) (fun v11_2 w =>
 gdM (gd v9_1 true) (pureM a2) (fun v12_3 w =>
 gdM (gd v9_1 true) (oM Tryz.prog (.binOp .leq 3 (.tmp 0) (.tmp 1) 3) 4 [v11_2, v12_3]) (fun v13_4 w =>
 oM Tryz.prog (.pick (.tmp 0) (.tmp 1) (.tmp 2)) 4 [v9_1, v13_4, (.bool false)] (fun v14_5 w =>
 K v14_5 w) w) w) w) w) w
theorem sh_84_eq (a0 : Value) (a1 : Value) (a2 : Value) (K : Value → World → Prop) (w : World) : sh_84 a0 a1 a2 K w = code Tryz.prog (fun _ => 0) 15 (Tryz.f84.body.getD .skip) (slotsAt [a0, a1, a2]) (retK Tryz.prog [.tmp 6] K) w := by kernel_rfl
theorem sh_84_ok {a0 a1 a2 : Value} {K : Value → World → Prop} {w : World} (h : sh_84 a0 a1 a2 K w) : callM Tryz.prog 84 #[a0, a1, a2] K w :=
  calls_of_code (fun _ => 0) (fn := Tryz.f84) (rs := [.tmp 6]) Tryz.func84 rfl rfl (by kernel_rfl) (Nat.le_of_ble_eq_true rfl) ((sh_84_eq a0 a1 a2 K w).mp h)
def sh_85 (a0 : Value) (a1 : Value) (a2 : Value) (K : Value → World → Prop) (w : World) : Prop :=
 oM Tryz.prog (.box 35 (.tmp 0)) 0 [a0] (fun v3_1 w =>
 oM Tryz.prog (.fieldAddr 35 (.tmp 0) 0) 0 [v3_1] (fun v7_2 w =>
 oM Tryz.prog (.load 33 (.tmp 0)) 33 [v7_2] (fun v8_3 w =>
 callM Tryz.prog 147 #[v8_3, a1, a2] (fun v11_4 w =>
 K v11_4 w) w) w) w) w
theorem sh_85_eq (a0 : Value) (a1 : Value) (a2 : Value) (K : Value → World → Prop) (w : World) : sh_85 a0 a1 a2 K w = code Tryz.prog (fun _ => 0) 12 (Tryz.f85.body.getD .skip) (slotsAt [a0, a1, a2]) (retK Tryz.prog [.tmp 6] K) w := by kernel_rfl
theorem sh_85_ok {a0 a1 a2 : Value} {K : Value → World → Prop} {w : World} (h : sh_85 a0 a1 a2 K w) : callM Tryz.prog 85 #[a0, a1, a2] K w :=
  calls_of_code (fun _ => 0) (fn := Tryz.f85) (rs := [.tmp 6]) Tryz.func85 rfl rfl (by kernel_rfl) (Nat.le_of_ble_eq_true rfl) ((sh_85_eq a0 a1 a2 K w).mp h)
def sh_86 (a0 : Value) (a1 : Value) (K : Value → World → Prop) (w : World) : Prop :=
 oM Tryz.prog (.box 35 (.tmp 0)) 0 [a0] (fun v2_1 w =>
 oM Tryz.prog (.load 35 (.tmp 0)) 35 [v2_1] (fun v5_2 w =>
 callM Tryz.prog 99 #[v5_2] (fun v6_3 w =>
 gdM (gd v6_3 true) (oM Tryz.prog (.fieldAddr 35 (.tmp 0) 0) 0 [v2_1]) (fun v8_4 w =>
 gdM (gd v6_3 true) (oM Tryz.prog (.load 33 (.tmp 0)) 33 [v8_4]) (fun v9_5 w =>
 gdM (gd v6_3 true) (pureM a1) (fun v10_6 w =>
 gdM (gd v6_3 true) (callM Tryz.prog 87 #[v9_5, v10_6]) (fun v11_7 w =>
 oM Tryz.prog (.pick (.tmp 0) (.tmp 1) (.tmp 2)) 4 [v6_3, v11_7, (.bool false)] (fun v12_8 w =>
 gdM (gd v12_8 true) (pureM a1) (fun v14_9 w =>
 gdM (gd v12_8 true) (oM Tryz.prog (.binOp .neq 3 (.tmp 0) (.const (.int .i64 1)) 3) 4 [v14_9]) (fun v15_10 w =>
 oM Tryz.prog (.pick (.tmp 0) (.tmp 1) (.tmp 2)) 4 [v12_8, v15_10, (.bool false)] (fun v16_11 w =>
 K v16_11 w) w) w) w) w) w) w) w) w) w) w) w
theorem sh_86_eq (a0 : Value) (a1 : Value) (K : Value → World → Prop) (w : World) : sh_86 a0 a1 K w = code Tryz.prog (fun _ => 0) 17 (Tryz.f86.body.getD .skip) (slotsAt [a0, a1]) (retK Tryz.prog [.tmp 4] K) w := by kernel_rfl
theorem sh_86_ok {a0 a1 : Value} {K : Value → World → Prop} {w : World} (h : sh_86 a0 a1 K w) : callM Tryz.prog 86 #[a0, a1] K w :=
  calls_of_code (fun _ => 0) (fn := Tryz.f86) (rs := [.tmp 4]) Tryz.func86 rfl rfl (by kernel_rfl) (Nat.le_of_ble_eq_true rfl) ((sh_86_eq a0 a1 K w).mp h)
def sh_88 (a0 : Value) (a1 : Value) (K : Value → World → Prop) (w : World) : Prop :=
 oM Tryz.prog (.box 35 (.tmp 0)) 0 [a0] (fun v2_1 w =>
 oM Tryz.prog (.box 28 (.tmp 0)) 0 [a1] (fun v3_2 w =>
 oM Tryz.prog (.fieldAddr 35 (.tmp 0) 0) 0 [v2_1] (fun v6_3 w =>
 oM Tryz.prog (.fieldAddr 33 (.tmp 0) 1) 0 [v6_3] (fun v7_4 w =>
 oM Tryz.prog (.load 3 (.tmp 0)) 3 [v7_4] (fun v8_5 w =>
 oM Tryz.prog (.fieldAddr 28 (.tmp 0) 0) 0 [v3_2] (fun v9_6 w =>
 oM Tryz.prog (.load 3 (.tmp 0)) 3 [v9_6] (fun v10_7 w =>
 oM Tryz.prog (.binOp .sub 3 (.tmp 0) (.tmp 1) 3) 3 [v8_5, (.int .i64 1)] (fun v12_8 w =>
 callM Tryz.prog 84 #[v10_7, (.int .i64 1), v12_8] (fun v13_9 w =>
 gdM (gd v13_9 true) (oM Tryz.prog (.fieldAddr 28 (.tmp 0) 1) 0 [v3_2]) (fun v15_10 w =>
 gdM (gd v13_9 true) (oM Tryz.prog (.load 3 (.tmp 0)) 3 [v15_10]) (fun v16_11 w =>
 gdM (gd v13_9 true) (pureM v8_5) (fun v17_12 w =>
 gdM (gd v13_9 true) (oM Tryz.prog (.binOp .sub 3 (.tmp 0) (.tmp 1) 3) 3 [v17_12, (.int .i64 1)]) (fun v18_13 w =>
 gdM (gd v13_9 true) (callM Tryz.prog 84 #[v16_11, (.int .i64 1), v18_13]) (fun v19_14 w =>
 oM Tryz.prog (.pick (.tmp 0) (.tmp 1) (.tmp 2)) 4 [v13_9, v19_14, (.bool false)] (fun v20_15 w =>
 gdM (gd v20_15 true) (oM Tryz.prog (.fieldAddr 28 (.tmp 0) 2) 0 [v3_2]) (fun v22_16 w =>
 gdM (gd v20_15 true) (oM Tryz.prog (.load 3 (.tmp 0)) 3 [v22_16]) (fun v23_17 w =>
 gdM (gd v20_15 true) (pureM v8_5) (fun v24_18 w =>
 gdM (gd v20_15 true) (oM Tryz.prog (.binOp .sub 3 (.tmp 0) (.tmp 1) 3) 3 [v24_18, (.int .i64 1)]) (fun v25_19 w =>
 gdM (gd v20_15 true) (callM Tryz.prog 84 #[v23_17, (.int .i64 0), v25_19]) (fun v26_20 w =>
 oM Tryz.prog (.pick (.tmp 0) (.tmp 1) (.tmp 2)) 4 [v20_15, v26_20, (.bool false)] (fun v27_21 w =>
 gdM (gd v27_21 true) (oM Tryz.prog (.load 35 (.tmp 0)) 35 [v2_1]) (fun v29_22 w =>
 gdM (gd v27_21 true) (oM Tryz.prog (.fieldAddr 28 (.tmp 0) 3) 0 [v3_2]) (fun v30_23 w =>
 gdM (gd v27_21 true) (oM Tryz.prog (.load 22 (.tmp 0)) 22 [v30_23]) (fun v31_24 w =>
 gdM (gd v27_21 true) (oM Tryz.prog (.fieldAddr 35 (.tmp 0) 1) 0 [v2_1]) (fun v32_25 w =>
 gdM (gd v27_21 true) (oM Tryz.prog (.load 22 (.tmp 0)) 22 [v32_25]) (fun v33_26 w =>
 gdM (gd v27_21 true) (oM Tryz.prog (.call (Go.Call.mk (.builtin .len) #[(.tmp 0)] #[22])) 3 [v33_26]) (fun v34_27 w =>
 gdM (gd v27_21 true) (callM Tryz.prog 128 #[v29_22, v31_24, v34_27]) (fun v35_28 w =>
 oM Tryz.prog (.pick (.tmp 0) (.tmp 1) (.tmp 2)) 4 [v27_21, v35_28, (.bool false)] (fun v36_29 w =>
 K v36_29 w) w) w) w) w) w) w) w) w) w) w) w) w) w) w) w) w) w) w) w) w) w) w) w) w) w) w) w) w) w
theorem sh_88_eq (a0 : Value) (a1 : Value) (K : Value → World → Prop) (w : World) : sh_88 a0 a1 K w = code Tryz.prog (fun _ => 0) 37 (Tryz.f88.body.getD .skip) (slotsAt [a0, a1]) (retK Tryz.prog [.tmp 4] K) w := by kernel_rfl
theorem sh_88_ok {a0 a1 : Value} {K : Value → World → Prop} {w : World} (h : sh_88 a0 a1 K w) : callM Tryz.prog 88 #[a0, a1] K w :=
  calls_of_code (fun _ => 0) (fn := Tryz.f88) (rs := [.tmp 4]) Tryz.func88 rfl rfl (by kernel_rfl) (Nat.le_of_ble_eq_true rfl) ((sh_88_eq a0 a1 K w).mp h)
def sh_89 (a0 : Value) (a1 : Value) (K : Value → World → Prop) (w : World) : Prop :=
 oM Tryz.prog (.box 35 (.tmp 0)) 0 [a0] (fun v2_1 w =>
 oM Tryz.prog (.box 43 (.tmp 0)) 0 [a1] (fun v3_2 w =>
 heldM w (fun C_3 w => (((true : Bool) = true) ∧ (oH Tryz.prog (.fieldAddr 43 (.tmp 0) 0) 0 [v3_2] C_3 (fun v5_4 =>
 oH Tryz.prog (.load 3 (.tmp 0)) 3 [v5_4] C_3 (fun v6_5 =>
 oH Tryz.prog (.fieldAddr 43 (.tmp 0) 1) 0 [v3_2] C_3 (fun v7_6 =>
 oH Tryz.prog (.load 3 (.tmp 0)) 3 [v7_6] C_3 (fun v8_7 =>
 oH Tryz.prog (.fieldAddr 43 (.tmp 0) 2) 0 [v3_2] C_3 (fun v9_8 =>
 oH Tryz.prog (.load 3 (.tmp 0)) 3 [v9_8] C_3 (fun v10_9 =>
 oH Tryz.prog (.fieldAddr 43 (.tmp 0) 3) 0 [v3_2] C_3 (fun v11_10 =>
 oH Tryz.prog (.load 3 (.tmp 0)) 3 [v11_10] C_3 (fun v12_11 =>
 oH Tryz.prog (.fieldAddr 43 (.tmp 0) 4) 0 [v3_2] C_3 (fun v13_12 =>
 oH Tryz.prog (.load 3 (.tmp 0)) 3 [v13_12] C_3 (fun v14_13 =>
 oH Tryz.prog (.fieldAddr 35 (.tmp 0) 0) 0 [v2_1] C_3 (fun v17_14 =>
 oH Tryz.prog (.fieldAddr 33 (.tmp 0) 1) 0 [v17_14] C_3 (fun v18_15 =>
 oH Tryz.prog (.load 3 (.tmp 0)) 3 [v18_15] C_3 (fun v19_16 =>
 ∃ S_17 : World → World → Prop, ∃ R_18 : Value → World → Prop, (∀ v w w_1, S_17 w w_1 → R_18 v w → R_18 v w_1) ∧
 (∀ w, C_3 w → (oM Tryz.prog (.buildSlice 22 5 #[(0, (.tmp 0)), (1, (.tmp 1)), (2, (.tmp 2)), (3, (.tmp 3)), (4, (.tmp 4))]) 22 [v6_5, v8_7, v10_9, v12_11, v14_13] (fun v w_1 => C_3 w_1 ∧ S_17 w w_1 ∧ R_18 v w_1) w)) ∧
 (∃ R_19 : Value → World → Prop, (∀ v w w_1, S_17 w w_1 → R_19 v w → R_19 v w_1) ∧
 (∀ w, C_3 w → ∀ v15_20, R_18 v15_20 w → (callM Tryz.prog 129 #[v15_20] (fun v w_1 => C_3 w_1 ∧ S_17 w w_1 ∧ R_19 v w_1) w)) ∧
 (∀ w, C_3 w → ∀ v15_21, R_18 v15_21 w → ∀ v16_22, R_19 v16_22 w → (
 callM Tryz.prog 132 #[v16_22, v19_16] (fun v20_23 w =>
 K v20_23 w) w)))))))))))))))))))) w) w
theorem sh_89_eq (a0 : Value) (a1 : Value) (K : Value → World → Prop) (w : World) : sh_89 a0 a1 K w = code Tryz.prog (fun _ => .free [0, 1, 2, 3, 4, 5, 6, 7, 8, 9, 12, 13, 14] [10, 11] [15, 16]) 21 (Tryz.f89.body.getD .skip) (slotsAt [a0, a1]) (retK Tryz.prog [.tmp 4] K) w := by kernel_rfl
theorem sh_89_ok {a0 a1 : Value} {K : Value → World → Prop} {w : World} (h : sh_89 a0 a1 K w) : callM Tryz.prog 89 #[a0, a1] K w :=
  calls_of_code (fun _ => .free [0, 1, 2, 3, 4, 5, 6, 7, 8, 9, 12, 13, 14] [10, 11] [15, 16]) (fn := Tryz.f89) (rs := [.tmp 4]) Tryz.func89 rfl rfl (by kernel_rfl) (Nat.le_of_ble_eq_true rfl) ((sh_89_eq a0 a1 K w).mp h)
def sh_90 (a0 : Value) (a1 : Value) (a2 : Value) (a3 : Value) (K : Value → World → Prop) (w : World) : Prop :=
 oM Tryz.prog (.box 35 (.tmp 0)) 0 [a0] (fun v4_1 w =>
 oM Tryz.prog (.box 39 (.tmp 0)) 0 [a2] (fun v6_2 w =>
 oM Tryz.prog (.box 28 (.tmp 0)) 0 [a3] (fun v7_3 w =>
 oM Tryz.prog (.alloc 43) 0 [] (fun v8_4 w =>
 heldM w (fun C_5 w => (((true : Bool) = true) ∧ (oH Tryz.prog (.load 35 (.tmp 0)) 35 [v4_1] C_5 (fun v10_6 =>
 oH Tryz.prog (.load 35 (.tmp 0)) 35 [v4_1] C_5 (fun v11_7 =>
 pureH a1 C_5 (fun v12_8 =>
 oH Tryz.prog (.fieldAddr 28 (.tmp 0) 0) 0 [v7_3] C_5 (fun v14_9 =>
 oH Tryz.prog (.load 3 (.tmp 0)) 3 [v14_9] C_5 (fun v15_10 =>
 oH Tryz.prog (.load 35 (.tmp 0)) 35 [v4_1] C_5 (fun v17_11 =>
 oH Tryz.prog (.fieldAddr 28 (.tmp 0) 3) 0 [v7_3] C_5 (fun v18_12 =>
 oH Tryz.prog (.load 22 (.tmp 0)) 22 [v18_12] C_5 (fun v19_13 =>
 oH Tryz.prog (.load 35 (.tmp 0)) 35 [v4_1] C_5 (fun v21_14 =>
 oH Tryz.prog (.fieldAddr 39 (.tmp 0) 0) 0 [v6_2] C_5 (fun v22_15 =>
 oH Tryz.prog (.load 3 (.tmp 0)) 3 [v22_15] C_5 (fun v23_16 =>
 oH Tryz.prog (.fieldAddr 28 (.tmp 0) 0) 0 [v7_3] C_5 (fun v24_17 =>
 oH Tryz.prog (.load 3 (.tmp 0)) 3 [v24_17] C_5 (fun v25_18 =>
 ∃ S_19 : World → World → Prop, ∃ R_20 : Value → World → Prop, (∀ v w w_1, S_19 w w_1 → R_20 v w → R_20 v w_1) ∧
 (∀ w, C_5 w → (callM Tryz.prog 28 #[v11_7, v12_8] (fun v w_1 => C_5 w_1 ∧ S_19 w w_1 ∧ R_20 v w_1) w)) ∧
 (∃ R_21 : Value → World → Prop, (∀ v w w_1, S_19 w w_1 → R_21 v w → R_21 v w_1) ∧
 (∀ w, C_5 w → ∀ v13_22, R_20 v13_22 w → (callM Tryz.prog 85 #[v10_6, v13_22, v15_10] (fun v w_1 => C_5 w_1 ∧ S_19 w w_1 ∧ R_21 v w_1) w)) ∧
 (∃ R_23 : Value → World → Prop, (∀ v w w_1, S_19 w w_1 → R_23 v w → R_23 v w_1) ∧
 (∀ w, C_5 w → (callM Tryz.prog 97 #[v17_11, v19_13] (fun v w_1 => C_5 w_1 ∧ S_19 w w_1 ∧ R_23 v w_1) w)) ∧
 (∃ R_24 : Value → World → Prop, (∀ v w w_1, S_19 w w_1 → R_24 v w → R_24 v w_1) ∧
 (∀ w, C_5 w → (callM Tryz.prog 85 #[v21_14, v23_16, v25_18] (fun v w_1 => C_5 w_1 ∧ S_19 w w_1 ∧ R_24 v w_1) w)) ∧
 (∃ R_25 : Value → World → Prop, (∀ v w w_1, S_19 w w_1 → R_25 v w → R_25 v w_1) ∧
 (∀ w, C_5 w → ∀ v16_26, R_21 v16_26 w → ∀ v20_27, R_23 v20_27 w → ∀ v26_28, R_24 v26_28 w → (oM Tryz.prog (.build 43 #[(0, (.tmp 0)), (1, (.tmp 1)), (2, (.tmp 2))]) 43 [v16_26, v20_27, v26_28] (fun v w_1 => C_5 w_1 ∧ S_19 w w_1 ∧ R_25 v w_1) w)) ∧
 (∃ R_29 : Value → World → Prop, (∀ v w w_1, S_19 w w_1 → R_29 v w → R_29 v w_1) ∧
 (∀ w, C_5 w → (oM Tryz.prog (.alloc 43) 0 [] (fun v w_1 => C_5 w_1 ∧ S_19 w w_1 ∧ R_29 v w_1) w)) ∧
 (∀ w, C_5 w → ∀ v13_30, R_20 v13_30 w → ∀ v16_31, R_21 v16_31 w → ∀ v20_32, R_23 v20_32 w → ∀ v26_33, R_24 v26_33 w → ∀ v27_34, R_25 v27_34 w → ∀ v9_35, R_29 v9_35 w → (
 oM Tryz.prog (.store 43 (.tmp 0) (.tmp 1)) 0 [v9_35, v27_34] (fun _ w =>
 heldM w (fun C_36 w => (((true : Bool) = true) ∧ (oH Tryz.prog (.load 35 (.tmp 0)) 35 [v4_1] C_36 (fun v28_37 =>
 oH Tryz.prog (.load 35 (.tmp 0)) 35 [v4_1] C_36 (fun v29_38 =>
 oH Tryz.prog (.fieldAddr 39 (.tmp 0) 1) 0 [v6_2] C_36 (fun v30_39 =>
 oH Tryz.prog (.load 3 (.tmp 0)) 3 [v30_39] C_36 (fun v31_40 =>
 oH Tryz.prog (.fieldAddr 28 (.tmp 0) 1) 0 [v7_3] C_36 (fun v32_41 =>
 oH Tryz.prog (.load 3 (.tmp 0)) 3 [v32_41] C_36 (fun v33_42 =>
 oH Tryz.prog (.load 35 (.tmp 0)) 35 [v4_1] C_36 (fun v35_43 =>
 oH Tryz.prog (.fieldAddr 35 (.tmp 0) 0) 0 [v4_1] C_36 (fun v36_44 =>
 oH Tryz.prog (.fieldAddr 33 (.tmp 0) 2) 0 [v36_44] C_36 (fun v37_45 =>
 oH Tryz.prog (.load 3 (.tmp 0)) 3 [v37_45] C_36 (fun v38_46 =>
 oH Tryz.prog (.fieldAddr 28 (.tmp 0) 2) 0 [v7_3] C_36 (fun v39_47 =>
 oH Tryz.prog (.load 3 (.tmp 0)) 3 [v39_47] C_36 (fun v40_48 =>
 ∃ S_49 : World → World → Prop, ∃ R_50 : Value → World → Prop, (∀ v w w_1, S_49 w w_1 → R_50 v w → R_50 v w_1) ∧
 (∀ w, C_36 w → (callM Tryz.prog 85 #[v29_38, v31_40, v33_42] (fun v w_1 => C_36 w_1 ∧ S_49 w w_1 ∧ R_50 v w_1) w)) ∧
 (∃ R_51 : Value → World → Prop, (∀ v w w_1, S_49 w w_1 → R_51 v w → R_51 v w_1) ∧
 (∀ w, C_36 w → (callM Tryz.prog 85 #[v35_43, v38_46, v40_48] (fun v w_1 => C_36 w_1 ∧ S_49 w w_1 ∧ R_51 v w_1) w)) ∧
 (∀ w, C_36 w → ∀ v34_52, R_50 v34_52 w → ∀ v41_53, R_51 v41_53 w → (
 callM Tryz.prog 92 #[v28_37, v34_52, v41_53] (fun v42_54 w =>
 oM Tryz.prog (.fieldAddr 43 (.tmp 0) 3) 0 [v9_35] (fun v43_55 w =>
 oM Tryz.prog (.store 3 (.tmp 0) (.tmp 1)) 0 [v43_55, v42_54] (fun _ w =>
 heldM w (fun C_56 w => (((true : Bool) = true) ∧ (oH Tryz.prog (.load 35 (.tmp 0)) 35 [v4_1] C_56 (fun v44_57 =>
 oH Tryz.prog (.load 35 (.tmp 0)) 35 [v4_1] C_56 (fun v45_58 =>
 oH Tryz.prog (.fieldAddr 39 (.tmp 0) 2) 0 [v6_2] C_56 (fun v46_59 =>
 oH Tryz.prog (.load 3 (.tmp 0)) 3 [v46_59] C_56 (fun v47_60 =>
 oH Tryz.prog (.load 35 (.tmp 0)) 35 [v4_1] C_56 (fun v48_61 =>
 oH Tryz.prog (.fieldAddr 28 (.tmp 0) 0) 0 [v7_3] C_56 (fun v49_62 =>
 oH Tryz.prog (.load 3 (.tmp 0)) 3 [v49_62] C_56 (fun v50_63 =>
 oH Tryz.prog (.fieldAddr 28 (.tmp 0) 1) 0 [v7_3] C_56 (fun v51_64 =>
 oH Tryz.prog (.load 3 (.tmp 0)) 3 [v51_64] C_56 (fun v52_65 =>
 oH Tryz.prog (.load 35 (.tmp 0)) 35 [v4_1] C_56 (fun v55_66 =>
 oH Tryz.prog (.fieldAddr 43 (.tmp 0) 0) 0 [v9_35] C_56 (fun v56_67 =>
 oH Tryz.prog (.load 3 (.tmp 0)) 3 [v56_67] C_56 (fun v57_68 =>
 oH Tryz.prog (.fieldAddr 28 (.tmp 0) 2) 0 [v7_3] C_56 (fun v58_69 =>
 oH Tryz.prog (.load 3 (.tmp 0)) 3 [v58_69] C_56 (fun v59_70 =>
 ∃ S_71 : World → World → Prop, ∃ R_72 : Value → World → Prop, (∀ v w w_1, S_71 w w_1 → R_72 v w → R_72 v w_1) ∧
 (∀ w, C_56 w → (callM Tryz.prog 94 #[v48_61, v50_63, v52_65] (fun v w_1 => C_56 w_1 ∧ S_71 w w_1 ∧ R_72 v w_1) w)) ∧
 (∃ R_73 : Value → World → Prop, (∀ v w w_1, S_71 w w_1 → R_73 v w → R_73 v w_1) ∧
 (∀ w, C_56 w → ∀ v53_74, R_72 v53_74 w → (callM Tryz.prog 85 #[v45_58, v47_60, v53_74] (fun v w_1 => C_56 w_1 ∧ S_71 w w_1 ∧ R_73 v w_1) w)) ∧
 (∃ R_75 : Value → World → Prop, (∀ v w w_1, S_71 w w_1 → R_75 v w → R_75 v w_1) ∧
 (∀ w, C_56 w → (callM Tryz.prog 85 #[v55_66, v57_68, v59_70] (fun v w_1 => C_56 w_1 ∧ S_71 w w_1 ∧ R_75 v w_1) w)) ∧
 (∀ w, C_56 w → ∀ v53_76, R_72 v53_76 w → ∀ v54_77, R_73 v54_77 w → ∀ v60_78, R_75 v60_78 w → (
 callM Tryz.prog 92 #[v44_57, v54_77, v60_78] (fun v61_79 w =>
 oM Tryz.prog (.fieldAddr 43 (.tmp 0) 4) 0 [v9_35] (fun v62_80 w =>
 oM Tryz.prog (.store 3 (.tmp 0) (.tmp 1)) 0 [v62_80, v61_79] (fun _ w =>
 oM Tryz.prog (.load 43 (.tmp 0)) 43 [v9_35] (fun v63_81 w =>
 oM Tryz.prog (.store 43 (.tmp 0) (.tmp 1)) 0 [v8_4, v63_81] (fun _ w =>
 ∃ r_82, (do loadVar 43 (← asAddr v8_4) : Sem Value).run Tryz.prog w = .ok r_82 w ∧ K r_82 w) w) w) w) w) w)))))))))))))))))))))) w) w) w))))))))))))))))))) w)))))))))))))))))))))))) w) w) w) w
theorem sh_90_eq (a0 : Value) (a1 : Value) (a2 : Value) (a3 : Value) (K : Value → World → Prop) (w : World) : sh_90 a0 a1 a2 a3 K w = code Tryz.prog (fun i => bif Nat.beq i 1 then .free [0, 1, 2, 4, 5, 7, 8, 9, 11, 12, 13, 14, 15] [3, 6, 10, 16, 17, 18] [19] else bif Nat.beq i 2 then .free [0, 1, 2, 3, 4, 5, 7, 8, 9, 10, 11, 12] [6, 13] [14, 15, 16] else bif Nat.beq i 3 then .free [0, 1, 2, 3, 4, 5, 6, 7, 8, 11, 12, 13, 14, 15] [9, 10, 16] [17, 18, 19] else 0) 64 (Tryz.f90.body.getD .skip) (slotsAt [a0, a1, a2, a3]) (retK Tryz.prog [.cell 8 43] K) w := by kernel_rfl
theorem sh_90_ok {a0 a1 a2 a3 : Value} {K : Value → World → Prop} {w : World} (h : sh_90 a0 a1 a2 a3 K w) : callM Tryz.prog 90 #[a0, a1, a2, a3] K w :=
  calls_of_code (fun i => bif Nat.beq i 1 then .free [0, 1, 2, 4, 5, 7, 8, 9, 11, 12, 13, 14, 15] [3, 6, 10, 16, 17, 18] [19] else bif Nat.beq i 2 then .free [0, 1, 2, 3, 4, 5, 7, 8, 9, 10, 11, 12] [6, 13] [14, 15, 16] else bif Nat.beq i 3 then .free [0, 1, 2, 3, 4, 5, 6, 7, 8, 11, 12, 13, 14, 15] [9, 10, 16] [17, 18, 19] else 0) (fn := Tryz.f90) (rs := [.cell 8 43]) Tryz.func90 rfl rfl (by kernel_rfl) (Nat.le_of_ble_eq_true rfl) ((sh_90_eq a0 a1 a2 a3 K w).mp h)
def sh_91 (a0 : Value) (a1 : Value) (a2 : Value) (K : Value → World → Prop) (w : World) : Prop :=
 oM Tryz.prog (.box 35 (.tmp 0)) 0 [a0] (fun v3_1 w =>
 oM Tryz.prog (.fieldAddr 35 (.tmp 0) 0) 0 [v3_1] (fun v10_2 w =>
 oM Tryz.prog (.fieldAddr 33 (.tmp 0) 1) 0 [v10_2] (fun v11_3 w =>
 oM Tryz.prog (.load 3 (.tmp 0)) 3 [v11_3] (fun v12_4 w =>
 callM Tryz.prog 150 #[v12_4, a2] (fun v14_5 w =>
 oM Tryz.prog (.extract (.tmp 0) 0) 3 [v14_5] (fun v15_6 w =>
 oM Tryz.prog (.extract (.tmp 0) 1) 4 [v14_5] (fun v16_7 w =>
 oM Tryz.prog (.load 35 (.tmp 0)) 35 [v3_1] (fun v17_8 w =>
 callM Tryz.prog 94 #[v17_8, a1, v15_6] (fun v20_9 w =>
 K v20_9 w) w) w) w) w) w) w) w) w) w
theorem sh_91_eq (a0 : Value) (a1 : Value) (a2 : Value) (K : Value → World → Prop) (w : World) : sh_91 a0 a1 a2 K w = code Tryz.prog (fun _ => 0) 21 (Tryz.f91.body.getD .skip) (slotsAt [a0, a1, a2]) (retK Tryz.prog [.tmp 6] K) w := by kernel_rfl
theorem sh_91_ok {a0 a1 a2 : Value} {K : Value → World → Prop} {w : World} (h : sh_91 a0 a1 a2 K w) : callM Tryz.prog 91 #[a0, a1, a2] K w :=
  calls_of_code (fun _ => 0) (fn := Tryz.f91) (rs := [.tmp 6]) Tryz.func91 rfl rfl (by kernel_rfl) (Nat.le_of_ble_eq_true rfl) ((sh_91_eq a0 a1 a2 K w).mp h)
def sh_92 (a0 : Value) (a1 : Value) (a2 : Value) (K : Value → World → Prop) (w : World) : Prop :=
 oM Tryz.prog (.box 35 (.tmp 0)) 0 [a0] (fun v3_1 w =>
 oM Tryz.prog (.fieldAddr 35 (.tmp 0) 0) 0 [v3_1] (fun v7_2 w =>
 oM Tryz.prog (.load 33 (.tmp 0)) 33 [v7_2] (fun v8_3 w =>
 callM Tryz.prog 151 #[v8_3, a1, a2] (fun v11_4 w =>
 K v11_4 w) w) w) w) w
theorem sh_92_eq (a0 : Value) (a1 : Value) (a2 : Value) (K : Value → World → Prop) (w : World) : sh_92 a0 a1 a2 K w = code Tryz.prog (fun _ => 0) 12 (Tryz.f92.body.getD .skip) (slotsAt [a0, a1, a2]) (retK Tryz.prog [.tmp 6] K) w := by kernel_rfl
theorem sh_92_ok {a0 a1 a2 : Value} {K : Value → World → Prop} {w : World} (h : sh_92 a0 a1 a2 K w) : callM Tryz.prog 92 #[a0, a1, a2] K w :=
  calls_of_code (fun _ => 0) (fn := Tryz.f92) (rs := [.tmp 6]) Tryz.func92 rfl rfl (by kernel_rfl) (Nat.le_of_ble_eq_true rfl) ((sh_92_eq a0 a1 a2 K w).mp h)
def sh_94 (a0 : Value) (a1 : Value) (a2 : Value) (K : Value → World → Prop) (w : World) : Prop :=
 oM Tryz.prog (.box 35 (.tmp 0)) 0 [a0] (fun v3_1 w =>
 oM Tryz.prog (.fieldAddr 35 (.tmp 0) 0) 0 [v3_1] (fun v7_2 w =>
 oM Tryz.prog (.fieldAddr 33 (.tmp 0) 1) 0 [v7_2] (fun v8_3 w =>
 oM Tryz.prog (.load 3 (.tmp 0)) 3 [v8_3] (fun v9_4 w =>
 callM Tryz.prog 154 #[v9_4, a1, a2] (fun v12_5 w =>
 K v12_5 w) w) w) w) w) w
theorem sh_94_eq (a0 : Value) (a1 : Value) (a2 : Value) (K : Value → World → Prop) (w : World) : sh_94 a0 a1 a2 K w = code Tryz.prog (fun _ => 0) 13 (Tryz.f94.body.getD .skip) (slotsAt [a0, a1, a2]) (retK Tryz.prog [.tmp 6] K) w := by kernel_rfl
theorem sh_94_ok {a0 a1 a2 : Value} {K : Value → World → Prop} {w : World} (h : sh_94 a0 a1 a2 K w) : callM Tryz.prog 94 #[a0, a1, a2] K w :=
  calls_of_code (fun _ => 0) (fn := Tryz.f94) (rs := [.tmp 6]) Tryz.func94 rfl rfl (by kernel_rfl) (Nat.le_of_ble_eq_true rfl) ((sh_94_eq a0 a1 a2 K w).mp h)
def sh_96 (a0 : Value) (a1 : Value) (K : Value → World → Prop) (w : World) : Prop :=
 oM Tryz.prog (.box 35 (.tmp 0)) 0 [a0] (fun v2_1 w =>
 oM Tryz.prog (.load 35 (.tmp 0)) 35 [v2_1] (fun v5_2 w =>
 callM Tryz.prog 99 #[v5_2] (fun v6_3 w =>
 oM Tryz.prog (.unOp .not 4 (.tmp 0)) 4 [v6_3] (fun v7_4 w =>
 gdM (gd v7_4 false) (oM Tryz.prog (.load 35 (.tmp 0)) 35 [v2_1]) (fun v9_5 w =>
 gdM (gd v7_4 false) (pureM a1) (fun v10_6 w =>
 gdM (gd v7_4 false) (oM Tryz.prog (.fieldAddr 35 (.tmp 0) 1) 0 [v2_1]) (fun v11_7 w =>
 gdM (gd v7_4 false) (oM Tryz.prog (.load 22 (.tmp 0)) 22 [v11_7]) (fun v12_8 w =>
 gdM (gd v7_4 false) (oM Tryz.prog (.call (Go.Call.mk (.builtin .len) #[(.tmp 0)] #[22])) 3 [v12_8]) (fun v13_9 w =>
 gdM (gd v7_4 false) (oM Tryz.prog (.binOp .sub 3 (.tmp 0) (.tmp 1) 3) 3 [v13_9, (.int .i64 1)]) (fun v14_10 w =>
 gdM (gd v7_4 false) (callM Tryz.prog 128 #[v9_5, v10_6, v14_10]) (fun v15_11 w =>
 gdM (gd v7_4 false) (oM Tryz.prog (.unOp .not 4 (.tmp 0)) 4 [v15_11]) (fun v16_12 w =>
 oM Tryz.prog (.pick (.tmp 0) (.tmp 1) (.tmp 2)) 4 [v7_4, (.bool true), v16_12] (fun v17_13 w =>
 gdM (gd v17_13 false) (pureM a1) (fun v19_14 w =>
 gdM (gd v17_13 false) (oM Tryz.prog (.call (Go.Call.mk (.builtin .len) #[(.tmp 0)] #[22])) 3 [v19_14]) (fun v20_15 w =>
 gdM (gd v17_13 false) (oM Tryz.prog (.binOp .eql 3 (.tmp 0) (.const (.int .i64 0)) 3) 4 [v20_15]) (fun v21_16 w =>
 oM Tryz.prog (.pick (.tmp 0) (.tmp 1) (.tmp 2)) 4 [v17_13, (.bool true), v21_16] (fun v22_17 w =>
 condM v22_17
 (K (.bool false) w)
 (oM Tryz.prog (.indexAddr 22 (.tmp 0) (.tmp 1)) 0 [a1, (.int .i64 0)] (fun v24_18 w =>
 oM Tryz.prog (.load 3 (.tmp 0)) 3 [v24_18] (fun v25_19 w =>
 oM Tryz.prog (.binOp .neq 3 (.tmp 0) (.const (.int .i64 0)) 3) 4 [v25_19] (fun v26_20 w =>
 K v26_20 w) w) w) w)) w) w) w) w) w) w) w) w) w) w) w) w) w) w) w) w) w
theorem sh_96_eq (a0 : Value) (a1 : Value) (K : Value → World → Prop) (w : World) : sh_96 a0 a1 K w = code Tryz.prog (fun _ => 0) 27 (Tryz.f96.body.getD .skip) (slotsAt [a0, a1]) (retK Tryz.prog [.tmp 4] K) w := by kernel_rfl
theorem sh_96_ok {a0 a1 : Value} {K : Value → World → Prop} {w : World} (h : sh_96 a0 a1 K w) : callM Tryz.prog 96 #[a0, a1] K w :=
  calls_of_code (fun _ => 0) (fn := Tryz.f96) (rs := [.tmp 4]) Tryz.func96 rfl rfl (by kernel_rfl) (Nat.le_of_ble_eq_true rfl) ((sh_96_eq a0 a1 K w).mp h)
def sh_97 (a0 : Value) (a1 : Value) (K : Value → World → Prop) (w : World) : Prop :=
 oM Tryz.prog (.box 35 (.tmp 0)) 0 [a0] (fun v2_1 w =>
 oM Tryz.prog (.fieldAddr 35 (.tmp 0) 0) 0 [v2_1] (fun v8_2 w =>
 oM Tryz.prog (.load 33 (.tmp 0)) 33 [v8_2] (fun v9_3 w =>
 oM Tryz.prog (.fieldAddr 35 (.tmp 0) 1) 0 [v2_1] (fun v10_4 w =>
 oM Tryz.prog (.load 22 (.tmp 0)) 22 [v10_4] (fun v11_5 w =>
 callM Tryz.prog 155 #[v9_3, v11_5, a1] (fun v13_6 w =>
 oM Tryz.prog (.extract (.tmp 0) 0) 3 [v13_6] (fun v14_7 w =>
 oM Tryz.prog (.extract (.tmp 0) 1) 4 [v13_6] (fun v15_8 w =>
 K v14_7 w) w) w) w) w) w) w) w) w
theorem sh_97_eq (a0 : Value) (a1 : Value) (K : Value → World → Prop) (w : World) : sh_97 a0 a1 K w = code Tryz.prog (fun _ => 0) 17 (Tryz.f97.body.getD .skip) (slotsAt [a0, a1]) (retK Tryz.prog [.tmp 4] K) w := by kernel_rfl
theorem sh_97_ok {a0 a1 : Value} {K : Value → World → Prop} {w : World} (h : sh_97 a0 a1 K w) : callM Tryz.prog 97 #[a0, a1] K w :=
  calls_of_code (fun _ => 0) (fn := Tryz.f97) (rs := [.tmp 4]) Tryz.func97 rfl rfl (by kernel_rfl) (Nat.le_of_ble_eq_true rfl) ((sh_97_eq a0 a1 K w).mp h)
def sh_98 (a0 : Value) (K : Value → World → Prop) (w : World) : Prop :=
 oM Tryz.prog (.buildSlice 22 1 #[(0, (.tmp 0))]) 22 [(.int .i64 1)] (fun v3_1 w =>
 oM Tryz.prog (.call (Go.Call.mk (.builtin .append) #[(.tmp 0), (.tmp 1)] #[22, 22])) 22 [v3_1, a0] (fun v5_2 w =>
 K v5_2 w) w) w
theorem sh_98_eq (a0 : Value) (K : Value → World → Prop) (w : World) : sh_98 a0 K w = code Tryz.prog (fun _ => 0) 6 (Tryz.f98.body.getD .skip) (slotsAt [a0]) (retK Tryz.prog [.tmp 2] K) w := by kernel_rfl
theorem sh_98_ok {a0 : Value} {K : Value → World → Prop} {w : World} (h : sh_98 a0 K w) : callM Tryz.prog 98 #[a0] K w :=
  calls_of_code (fun _ => 0) (fn := Tryz.f98) (rs := [.tmp 2]) Tryz.func98 rfl rfl (by kernel_rfl) (Nat.le_of_ble_eq_true rfl) ((sh_98_eq a0 K w).mp h)
def sh_128 (a0 : Value) (a1 : Value) (a2 : Value) (K : Value → World → Prop) (w : World) : Prop :=
 oM Tryz.prog (.box 35 (.tmp 0)) 0 [a0] (fun v3_1 w =>
 oM Tryz.prog (.call (Go.Call.mk (.builtin .len) #[(.tmp 0)] #[22])) 3 [a1] (fun v9_2 w =>
 oM Tryz.prog (.binOp .neq 3 (.tmp 0) (.tmp 1) 3) 4 [v9_2, a2] (fun v11_3 w =>
 condM v11_3
 (K (.bool false) w)
 (loopM [(.bool false), (.int .i64 0)] w (fun J_4 m_5 l_6 u_l_6 w0_l_6 => (fun w => (
 oM Tryz.prog (.call (Go.Call.mk (.builtin .len) #[(.tmp 0)] #[22])) 3 [a1] (fun v14_7 w =>
 oM Tryz.prog (.binOp .lss 3 (.tmp 0) (.tmp 1) 3) 4 [(l_6.getD 1 undef), v14_7] (fun v15_8 w =>
 condM v15_8
 (heldM w (fun C_9 w => (((true : Bool) = true) ∧ (pureH a1 C_9 (fun v18_10 =>
 pureH (l_6.getD 1 undef) C_9 (fun v19_11 =>
 oH Tryz.prog (.indexAddr 22 (.tmp 0) (.tmp 1)) 0 [v18_10, v19_11] C_9 (fun v20_12 =>
 oH Tryz.prog (.load 3 (.tmp 0)) 3 [v20_12] C_9 (fun v21_13 =>
 oH Tryz.prog (.fieldAddr 35 (.tmp 0) 0) 0 [v3_1] C_9 (fun v22_14 =>
 oH Tryz.prog (.fieldAddr 33 (.tmp 0) 1) 0 [v22_14] C_9 (fun v23_15 =>
 oH Tryz.prog (.load 3 (.tmp 0)) 3 [v23_15] C_9 (fun v24_16 =>
 oH Tryz.prog (.binOp .sub 3 (.tmp 0) (.tmp 1) 3) 3 [v24_16, (.int .i64 1)] C_9 (fun v25_17 =>
 ∃ S_18 : World → World → Prop, ∀ w, C_9 w → (
 callM Tryz.prog 84 #[v21_13, (.int .i64 0), v25_17] (fun v26_19 w =>
 oM Tryz.prog (.unOp .not 4 (.tmp 0)) 4 [v26_19] (fun v27_20 w =>
 condM v27_20
 (K (.bool false) w)
 (oM Tryz.prog (.binOp .add 3 (.tmp 0) (.tmp 1) 3) 3 [(l_6.getD 1 undef), (.int .i64 1)] (fun v17_21 w =>
 J_4 [(l_6.getD 0 undef), v17_21] w ∧ m_5 [(l_6.getD 0 undef), v17_21] w < m_5 l_6 w0_l_6) w)) w) w)))))))))))))
 (K (.bool true) w)) w) w)) w0_l_6))) w) w) w
theorem sh_128_eq (a0 : Value) (a1 : Value) (a2 : Value) (K : Value → World → Prop) (w : World) : sh_128 a0 a1 a2 K w = code Tryz.prog (fun _ => .free [0, 1, 2, 3, 4, 5, 6, 7] [] [8, 9]) 28 (Tryz.f128.body.getD .skip) (slotsAt [a0, a1, a2]) (retK Tryz.prog [.tmp 6] K) w := by kernel_rfl
theorem sh_128_ok {a0 a1 a2 : Value} {K : Value → World → Prop} {w : World} (h : sh_128 a0 a1 a2 K w) : callM Tryz.prog 128 #[a0, a1, a2] K w :=
  calls_of_code (fun _ => .free [0, 1, 2, 3, 4, 5, 6, 7] [] [8, 9]) (fn := Tryz.f128) (rs := [.tmp 6]) Tryz.func128 rfl rfl (by kernel_rfl) (Nat.le_of_ble_eq_true rfl) ((sh_128_eq a0 a1 a2 K w).mp h)
end Go.Proofs
namespace Go.Proofs
open Go Go.Sh Go.RowKit FdSpec TkSpec CodeSpec
set_option linter.unusedSimpArgs false
set_option linter.unusedVariables false
set_option maxRecDepth 10000
section
variable {K : Value → World → Prop} {w w0 : World} {L : List (Addr × Value)}
theorem in_ok (n lo hi : Int) (h : K (.bool (decide (lo ≤ n) && decide (n ≤ hi))) w) : callM Tryz.prog 84 #[.int .i64 n, .int .i64 lo, .int .i64 hi] K w := by
  apply sh_84_ok
  unfold sh_84
  by_cases h1 : lo ≤ n
  · repeat (any_goals (first
    | (with_reducible first|refine pureM_in ?_|((refine idGd ?_); refine zA ?_)|((refine idPick ?_); refine yB ?_))
    | ((with_reducible refine idO ?_); (with_reducible refine oM_gen fun Kv hK=>?_); simp [go_sem, h1]; refine hK _ _ ?_; clear hK; clear Kv)))
    simpa [h1] using h
  · repeat (any_goals (first
    | (with_reducible first|((refine idGd ?_); refine zB ?_)|((refine idPick ?_); refine yC ?_))
    | ((with_reducible refine idO ?_); (with_reducible refine oM_gen fun Kv hK=>?_); simp [go_sem, h1]; refine hK _ _ ?_; clear hK; clear Kv)))
    simpa [h1] using h
theorem qpower_ok (s : Stp) (x n : Int) {dv : Value} (hs : SetR w s dv) (k : ∀ w', Below w.heap.size w w' → K (.int .i64 (powerG s.g x n)) w') : callM Tryz.prog 85 #[stpV s dv, .int .i64 x, .int .i64 n] K w := by
  apply sh_85_ok
  unfold sh_85
  obtain ⟨ad, c, rfl⟩ := hs.ints.isSlice
  refine box_kn (cs := stpC s (.slice ad s.bases.length c)) rfl (.start w) fun b W hk hb1 hb => ?_
  repeat (any_goals ((with_reducible refine idO ?_); (with_reducible refine oM_gen fun Kv hK=>?_); simp [go_sem, hk.cells]; refine hK _ _ ?_; clear hK; clear Kv))
  refine rPower_ok s.g x n (fun w2 h2 => ?_)
  exact k _ (hk.next h2).below
theorem qtimes_ok (s : Stp) (x y : Int) {dv : Value} (hs : SetR w s dv) (k : ∀ w', Below w.heap.size w w' → K (.int .i64 (timesM s x [y])) w') : callM Tryz.prog 92 #[stpV s dv, .int .i64 x, .int .i64 y] K w := by
  apply sh_92_ok
  unfold sh_92
  obtain ⟨ad, c, rfl⟩ := hs.ints.isSlice
  refine box_kn (cs := stpC s (.slice ad s.bases.length c)) rfl (.start w) fun b W hk hb1 hb => ?_
  repeat (any_goals ((with_reducible refine idO ?_); (with_reducible refine oM_gen fun Kv hK=>?_); simp [go_sem, hk.cells]; refine hK _ _ ?_; clear hK; clear Kv))
  refine rTimes_ok s.g x y (fun w2 h2 => ?_)
  exact k _ (hk.next h2).below
theorem qmul_ok (s : Stp) (x y : Int) {dv : Value} (hs : SetR w s dv) (k : ∀ w', Below w.heap.size w w' → K (.int .i64 (mulQ s x [y])) w') : callM Tryz.prog 94 #[stpV s dv, .int .i64 x, .int .i64 y] K w := by
  apply sh_94_ok
  unfold sh_94
  obtain ⟨ad, c, rfl⟩ := hs.ints.isSlice
  refine box_kn (cs := stpC s (.slice ad s.bases.length c)) rfl (.start w) fun b W hk hb1 hb => ?_
  repeat (any_goals ((with_reducible refine idO ?_); (with_reducible refine oM_gen fun Kv hK=>?_); simp [go_sem, hk.cells]; refine hK _ _ ?_; clear hK; clear Kv))
  refine rMul_ok s.g.Q x y ?_
  exact k _ hk.below
theorem invM_powM (n y : Int) : (invM n y).getD 0 = powM n y (-1) := by
  unfold powM
  by_cases hn : okN n
  · rw [if_pos hn, if_neg (by decide)]
    cases hi : invM n y with
    | none => rfl
    | some x =>
      have hx : 0 ≤ x ∧ x < n := by
        unfold invM at hi
        rw [if_pos hn] at hi
        split at hi
        · cases hi
          exact ⟨Int.emod_nonneg _ (by have := hn.1; omega), Int.emod_lt_of_pos _ (by have := hn.1; omega)⟩
        · cases hi
      show x = pw n x 1
      unfold pw
      have : x ^ 1 = x := by rw [show (1 : Nat) = 0 + 1 from rfl, Int.pow_succ, Int.pow_zero, Int.one_mul]
      rw [this, Int.emod_eq_of_lt hx.1 hx.2]
  · unfold invM
    rw [if_neg hn, if_neg hn]; rfl
theorem qover_ok (s : Stp) (x y : Int) {dv : Value} (hs : SetR w s dv) (k : ∀ w', Below w.heap.size w w' → K (.int .i64 (overQ s x y)) w') : callM Tryz.prog 91 #[stpV s dv, .int .i64 x, .int .i64 y] K w := by
  apply sh_91_ok
  unfold sh_91
  obtain ⟨ad, c, rfl⟩ := hs.ints.isSlice
  refine box_kn (cs := stpC s (.slice ad s.bases.length c)) rfl (.start w) fun b W hk hb1 hb => ?_
  unfold overQ at k
  rw [← invM_powM] at k
  repeat (any_goals ((with_reducible refine idO ?_); (with_reducible refine oM_gen fun Kv hK=>?_); simp [go_sem, hk.cells]; refine hK _ _ ?_; clear hK; clear Kv))
  refine rInv_ok s.g.Q y ?_
  repeat (any_goals ((with_reducible refine idO ?_); (with_reducible refine oM_gen fun Kv hK=>?_); simp [go_sem, hk.cells]; refine hK _ _ ?_; clear hK; clear Kv))
  refine qmul_ok s x _ (hs.next hk.below) (fun w2 h2 => ?_)
  exact k _ (hk.next h2).below
theorem qproduct_ok (s : Stp) {dv ev : Value} {es : List Int} (hs : SetR w s dv) (he : Ints w ev es) (k : ∀ w', Below w.heap.size w w' → K (.int .i64 (prodG s.g s.bases es).1) w') : callM Tryz.prog 97 #[stpV s dv, ev] K w := by
  apply sh_97_ok
  unfold sh_97
  have hi := hs.ints
  obtain ⟨ad, c, rfl⟩ := hs.ints.isSlice
  refine box_kn (cs := stpC s (.slice ad s.bases.length c)) rfl (.start w) fun b W hk hb1 hb => ?_
  repeat (any_goals ((with_reducible refine idO ?_); (with_reducible refine oM_gen fun Kv hK=>?_); simp [go_sem, hk.cells]; refine hK _ _ ?_; clear hK; clear Kv))
  refine rProduct_ok s.g (hi.next hk.below) (he.next hk.below) (fun w2 h2 => ?_)
  repeat (any_goals ((with_reducible refine idO ?_); (with_reducible refine oM_gen fun Kv hK=>?_); simp [go_sem]; refine hK _ _ ?_; clear hK; clear Kv))
  exact k _ (hk.next h2).below
theorem mkI1 {T : TypeId} (x : Int) (k : ∀ v W, Below w.heap.size w W → OwnI W w.heap.size v [x] → K v W) : oM Tryz.prog (.buildSlice 22 1 #[(0, .tmp 0)]) T [.int .i64 x] K w := by
  rw [oM_buildSlice1]
  have e : (Instr.buildSlice 22 1 #[(0, .int .i64 x)]).run Tryz.prog w = .ok (.slice (some ⟨w.heap.size, 0, none⟩) 1 1) (w.alloc (.cells #[.int .i64 x] 3)) := by kernel_rfl
  rw [e]
  exact k _ _ ((Below.refl _ w).alloc (Nat.le_refl _) _) ⟨rfl, .inr ⟨w.heap.size, 1, #[.int .i64 x], rfl, Nat.le_refl _, heap_alloc_new w _, Nat.le_refl _, by decide, rfl, rfl⟩⟩
theorem appendI {B : Nat} {T : TypeId} {v xv : Value} {l m : List Int} (ho : OwnI w B v l) (hB : B ≤ w.heap.size) (hx : Ints w xv m) (hl : l.length + m.length < 1099511627776)
    (k : ∀ v' w', OwnI w' B v' (l ++ m) → Below B w w' → K v' w') : oM Tryz.prog (.call { callee := .builtin .append, args := #[.tmp 0, .tmp 1], argTypes := #[22, 22] }) T [v, xv] K w := by
  obtain ⟨⟨ad, c, rfl, h0, hc⟩, hr, _⟩ := hx
  refine append_at 22 T 3 ((Tryz.prog.info? 3).getD default) (.int .i64 0) 1 8 (by kernel_rfl) (by kernel_rfl) (by kernel_rfl) (by kernel_rfl) (by kernel_rfl) (by kernel_rfl) (by omega) (owns_base ho (Nat.zero_le _)) (m.map (Value.int .i64)) (by simp) h0 ?_ ?_ (by simp only [maxLen]; omega) (by omega) ?_
  · rintro a rfl j u hj
    rcases hc with rfl | ⟨b, o, hbo, hlt, hcell⟩
    · simp at hj
    · cases hbo
      rw [add_none]
      exact hcell j u (by rw [flat_int]; exact hj)
  · intro u hu
    obtain ⟨x, _, rfl⟩ := List.mem_map.1 hu
    rfl
  · intro v' w' ho' hg hv
    have hbl : ∀ i, v.ownBlock = some i → B ≤ i := fun i hi => (owns_own ho hi).2.1
    refine k v' w' ?_ ((Below.refl B w).grown hg hB hbl)
    have e2 : flat intC (l ++ m) = flat intC l ++ m.map (Value.int .i64) := by rw [flat_int, flat_int]; simp
    show w'.ownsRow B 3 1 v' (l ++ m).length (flat intC (l ++ m))
    rw [List.length_append, e2]
    exact owns_up ho' (fun i hi => (hv i hi).elim (hbl i) (fun h => Nat.le_trans hB h))
theorem Exps_ok {lv : Value} {l : List Int} (hl : Ints w lv l) (hll : l.length < 1000000) (k : ∀ v w', Below w.heap.size w w' → Ints w' v (expsM l) → K v w') : callM Tryz.prog 98 #[lv] K w := by
  apply sh_98_ok
  unfold sh_98
  refine mkI1 1 fun v W h1 ho => ?_
  refine appendI ho h1.size (hl.next h1) (by simp; omega) (fun v' w' ho' h2 => ?_)
  exact k _ _ (h1.trans h2) (ho'.ints (by
    intro n hn
    rcases List.mem_cons.1 hn with rfl | hn
    · exact ⟨by decide, by decide⟩
    · exact hl.rng n hn) (by simp; omega))
def RsJ (s : Stp) (L : List (Addr × Value)) (R : Bool) (l : List Int) (w0 : World) (vs : List Value) (w' : World) : Prop := Kn w0 L w' ∧ ∃ (v : Value) (i : Nat), vs = [v, .int .i64 (i : Int)] ∧ i ≤ l.length ∧ numsM s 0 (l.drop i) = R
theorem numsM_cons (s : Stp) (m x : Int) (l : List Int) : numsM s m (x :: l) = ((decide (m ≤ x) && decide (x < s.g.Q)) && numsM s m l) := rfl
theorem residues_ok (s : Stp) (n : Nat) {dv lv : Value} {l : List Int} (hQ : 1 ≤ s.g.Q) (hs : SetR w s dv) (hl : Ints w lv l) (hn : n < 1000000) (k : ∀ w', Below w.heap.size w w' → K (.bool (decide (l.length = n) && numsM s 0 l)) w') : callM Tryz.prog 128 #[stpV s dv, lv, .int .i64 (n : Int)] K w := by
  apply sh_128_ok
  unfold sh_128
  obtain ⟨ad, c, rfl⟩ := hs.ints.isSlice
  refine box_kn (cs := stpC s (.slice ad s.bases.length c)) rfl (.start w) fun b W hk hb1 hb => ?_
  obtain ⟨ad2, c2, rfl⟩ := hl.isSlice
  have hll := hl.len
  have hQR := hs.grp.2.1
  unfold I64 at hQR
  by_cases hln : l.length = n
  · have hln' : (l.length : Int) = (n : Int) := by omega
    rw [decide_eq_true hln, Bool.true_and] at k
    repeat (any_goals (first
    | (with_reducible ((refine idCond ?_); refine yM ?_))
    | ((with_reducible refine idO ?_); (with_reducible refine oM_gen fun Kv hK=>?_); simp [go_sem, hln']; refine hK _ _ ?_; clear hK; clear Kv)))
    refine ⟨RsJ s _ (numsM s 0 l) l w, rpdMu l.length, ⟨hk, _, 0, rfl, by omega, rfl⟩, ?_⟩
    generalize numsM s 0 l = R at *
    rintro _ _ w1 ⟨hk, u, i, rfl, hi, ha⟩
    by_cases hin : i = l.length
    · rw [List.drop_of_length_le (by omega)] at ha
      repeat (any_goals (first
      | (with_reducible ((refine idCond ?_); refine yO ?_))
      | ((with_reducible refine idO ?_); (with_reducible refine oM_gen fun Kv hK=>?_); simp [go_sem, hln']; refine hK _ _ ?_; clear hK; clear Kv)))
      rw [show R = true from ha.symm] at k
      exact k _ hk.below
    · rw [List.drop_eq_getElem_cons (by omega), numsM_cons] at ha
      obtain ⟨b1, o1, rfl, hb1, ca, ra, _⟩ := hl.at (i := i) (by omega)
      have hx := ra
      generalize l[i] = x at *
      unfold I64 at hx
      have hin2 : (decide ((0 : Int) ≤ x) && decide (x ≤ s.g.Q - 1)) = (decide (0 ≤ x) && decide (x < s.g.Q)) := by
        congr 1
        exact decide_eq_decide.2 ⟨fun h => by omega, fun h => by omega⟩
      repeat (any_goals (first
      | (with_reducible ((refine idCond ?_); refine yN ?_))
      | ((with_reducible refine idO ?_); (with_reducible refine oM_gen fun Kv hK=>?_); simp [go_sem, hln']; refine hK _ _ ?_; clear hK; clear Kv)))
      have qw : IntKind.i64.wrap (s.g.Q - 1) = s.g.Q - 1 := wrapI64 _ (by omega) (by omega)
      refine ⟨Kn w _, hk.drew, rfl, ?_⟩
      clear hk
      repeat (any_goals (first
      | (with_reducible refine pureH_in ?_)
      | ((with_reducible refine idOH ?_); (with_reducible refine oH_of ⟨_, rfl⟩ (fun W0 hW0 => by (refine oM_gen (fun Kv hK => ?_)); simp [go_sem, ca _ hW0.below, hW0.cells, qw]; (first | exact hK _ _ ⟨rfl, rfl⟩ | exact ⟨by omega, hK _ _ ⟨rfl, rfl⟩⟩)) ?_))))
      refine ⟨Nx, fun w2 hk => ?_⟩
      refine in_ok x 0 _ ?_
      rw [hin2]
      cases hb : (decide ((0 : Int) ≤ x) && decide (x < s.g.Q)) with
      | false =>
        rw [hb, Bool.false_and] at ha
        subst ha
        repeat (any_goals (first
        | (with_reducible ((refine idCond ?_); refine yL ?_))
        | ((with_reducible refine idO ?_); (with_reducible refine oM_gen fun Kv hK=>?_); simp [go_sem]; refine hK _ _ ?_; clear hK; clear Kv)))
        exact k _ hk.below
      | true =>
        rw [hb, Bool.true_and] at ha
        repeat (any_goals (first
        | (with_reducible ((refine idCond ?_); refine yM ?_))
        | ((with_reducible refine idO ?_); (with_reducible refine oM_gen fun Kv hK=>?_); simp [go_sem]; (try simp (disch := omega) only [wrapI64, wrapU8, wrapU32, wrapU64]); refine hK _ _ ?_; clear hK; clear Kv)))
        refine ⟨⟨hk, _, i + 1, rfl, by omega, ha⟩, ?_⟩
        simp only [rpdMu_eq]; omega
  · have hln' : ¬ (l.length : Int) = (n : Int) := by omega
    rw [decide_eq_false hln, Bool.false_and] at k
    repeat (any_goals (first
    | (with_reducible ((refine idCond ?_); refine yL ?_))
    | ((with_reducible refine idO ?_); (with_reducible refine oM_gen fun Kv hK=>?_); simp [go_sem, hln']; refine hK _ _ ?_; clear hK; clear Kv)))
    exact k _ hk.below
theorem validS_Q {s : Stp} (h : validS s = true) : 5 ≤ s.g.Q ∧ validG s.g = true ∧ 2 ≤ s.bases.length ∧ s.bases.length ≤ 7 := by
  have hl := validS_len h
  unfold validS at h
  simp only [Bool.and_eq_true, decide_eq_true_eq] at h
  have hg := h.1.1.1.1
  exact ⟨(validG_facts hg).2.2.1, hg, hl⟩
theorem attributes_ok (s : Stp) {v lv : Value} {l : List Int} (hs : SetR w s v) (hl : Ints w lv l) (k : ∀ w', Below w.heap.size w w' → K (.bool (markM s l).2) w') : callM Tryz.prog 96 #[stpV s v, lv] K w := by
  apply sh_96_ok
  unfold sh_96
  obtain ⟨ad, c, rfl⟩ := hs.ints.isSlice
  refine box_kn (cs := stpC s (.slice ad s.bases.length c)) rfl (.start w) fun b W hk hb1 hb => ?_
  have hll := hl.len
  have hbl := hs.ints.len
  have e0 : (markM s l).2 = (validS s && decide (l.length + 1 = s.bases.length) && numsM s 0 l && !decide (l.headD 0 = 0)) := by
    unfold markM
    cases (validS s && decide (l.length + 1 = s.bases.length) && numsM s 0 l && !decide (l.headD 0 = 0)) <;> rfl
  have k2 : ∀ w' r, (validS s && decide (l.length + 1 = s.bases.length) && numsM s 0 l && !decide (l.headD 0 = 0)) = r → Below w.heap.size w w' → K (.bool r) w' := fun w' r e hb => by rw [← e, ← e0]; exact k w' hb
  clear k e0
  repeat (any_goals ((with_reducible refine idO ?_); (with_reducible refine oM_gen fun Kv hK=>?_); simp [go_sem, hk.cells]; refine hK _ _ ?_; clear hK; clear Kv))
  refine rValidSetup_ok s (hs.next hk.below) (fun w1 h => ?_)
  have hk := hk.next h
  clear h hb1
  cases hv : validS s with
  | false =>
    repeat (any_goals (first
    | (with_reducible first|((refine idGd ?_); refine zD ?_)|((refine idPick ?_); refine yB ?_)|((refine idCond ?_); refine yL ?_))
    | ((with_reducible refine idO ?_); (with_reducible refine oM_gen fun Kv hK=>?_); simp [go_sem]; refine hK _ _ ?_; clear hK; clear Kv)))
    exact k2 _ _ (by rw [hv]; simp) hk.below
  | true =>
  have hq := validS_Q hv
  repeat (any_goals (first
  | (with_reducible first|refine pureM_in ?_|((refine idGd ?_); refine zC ?_))
  | ((with_reducible refine idO ?_); (with_reducible refine oM_gen fun Kv hK=>?_); simp [go_sem, hk.cells]; (try simp (disch := omega) only [wrapI64, wrapU8, wrapU32, wrapU64]); refine hK _ _ ?_; clear hK; clear Kv)))
  have en : (s.bases.length : Int) - 1 = ((s.bases.length - 1 : Nat) : Int) := by omega
  rw [en]
  refine residues_ok s _ (by omega) (hs.next hk.below) (hl.next hk.below) (by omega) (fun w2 h => ?_)
  have hk := hk.next h
  clear h
  have ed : decide (l.length = s.bases.length - 1) = decide (l.length + 1 = s.bases.length) := decide_eq_decide.2 ⟨fun h => by omega, fun h => by omega⟩
  rw [ed]
  rw [hv, Bool.true_and] at k2
  cases hr : (decide (l.length + 1 = s.bases.length) && numsM s 0 l) with
  | false =>
    repeat (any_goals (first
    | (with_reducible first|((refine idGd ?_); first|refine zC ?_|refine zD ?_)|((refine idPick ?_); first|refine yB ?_|refine yC ?_)|((refine idCond ?_); refine yL ?_))
    | ((with_reducible refine idO ?_); (with_reducible refine oM_gen fun Kv hK=>?_); simp [go_sem]; refine hK _ _ ?_; clear hK; clear Kv)))
    exact k2 _ _ (by rw [hr]; rfl) hk.below
  | true =>
  rw [hr, Bool.true_and] at k2
  simp only [Bool.and_eq_true, decide_eq_true_eq] at hr
  obtain ⟨ad2, c2, rfl⟩ := hl.isSlice
  obtain ⟨b1, o1, rfl, ca, ra⟩ := hl.headD (by omega)
  have hne : ¬ l = [] := by intro h; rw [h] at hr; simp at hr; omega
  generalize l.headD 0 = h0 at *
  repeat (any_goals (first
  | (with_reducible first|refine pureM_in ?_|((refine idGd ?_); refine zC ?_)|((refine idPick ?_); refine yC ?_)|((refine idCond ?_); refine yM ?_))
  | ((with_reducible refine idO ?_); (with_reducible refine oM_gen fun Kv hK=>?_); simp [go_sem, hk.cells, hne, ca _ hk.below]; (first|refine hK _ _ ?_|refine And.intro (by omega) (hK _ _ ?_)); clear hK; clear Kv)))
  exact k2 _ _ rfl hk.below
theorem qMark_ok (s : Stp) {v lv : Value} {l : List Int} (hs : SetR w s v) (hl : Ints w lv l) (k : ∀ w', Below w.heap.size w w' → K (.int .i64 (markM s l).1) w') : callM Tryz.prog 28 #[stpV s v, lv] K w := by
  apply sh_28_ok
  unfold sh_28
  obtain ⟨ad, c, rfl⟩ := hs.ints.isSlice
  refine box_kn (cs := stpC s (.slice ad s.bases.length c)) rfl (.start w) fun b W hk hb1 hb => ?_
  repeat (any_goals ((with_reducible refine idO ?_); (with_reducible refine oM_gen fun Kv hK=>?_); simp [go_sem, hk.cells]; refine hK _ _ ?_; clear hK; clear Kv))
  refine attributes_ok s (hs.next hk.below) (hl.next hk.below) (fun w1 h => ?_)
  have hk := hk.next h
  clear h hb1
  unfold markM at k ⊢
  cases hc : (validS s && decide (l.length + 1 = s.bases.length) && numsM s 0 l && !decide (l.headD 0 = 0)) with
  | false =>
    rw [hc] at k
    repeat (any_goals (first
    | (with_reducible ((refine idCond ?_); refine yL ?_))
    | ((with_reducible refine idO ?_); (with_reducible refine oM_gen fun Kv hK=>?_); simp [go_sem]; refine hK _ _ ?_; clear hK; clear Kv)))
    exact k _ hk.below
  | true =>
  rw [hc] at k
  simp only [Bool.and_eq_true, decide_eq_true_eq] at hc
  have hq := validS_Q hc.1.1.1
  repeat (any_goals (first
  | (with_reducible ((refine idCond ?_); refine yM ?_))
  | ((with_reducible refine idO ?_); (with_reducible refine oM_gen fun Kv hK=>?_); simp [go_sem]; refine hK _ _ ?_; clear hK; clear Kv)))
  have hk := hk.drew
  refine ⟨Nx { w1 with drawn := w1.drawn + 1 }, Below.refl _ _, rfl, ?_⟩
  generalize ({ w1 with drawn := w1.drawn + 1 } : World) = W at hk ⊢
  repeat (any_goals (first
  | (with_reducible refine pureH_in ?_)
  | ((with_reducible refine idOH ?_); (with_reducible refine oH_of ⟨_, rfl⟩ (fun W0 hW0 => by (refine oM_gen (fun Kv hK => ?_)); simp [go_sem, (hk.next hW0).cells]; (first | exact hK _ _ ⟨rfl, rfl⟩ | exact ⟨by omega, hK _ _ ⟨rfl, rfl⟩⟩)) ?_))))
  refine ⟨Nx, monoR (fun v w' => Ints w' v (expsM l)) (fun v w w1 hS h => h.next hS) ?_ ?_⟩
  · intro w2 h2
    exact Exps_ok (hl.next (hk.next h2).below) (by omega) (fun v w3 h3 hi => ⟨h2.on h3, h3, hi⟩)
  intro w2 h2 v2 hi
  refine qproduct_ok s (hs.next (hk.next h2).below) hi (fun w3 h3 => ?_)
  exact k _ ((hk.next h2).next h3).below
theorem qUsable_ok (s : Stp) {v lv : Value} {l : List Int} (hs : SetR w s v) (hl : Ints w lv l) (k : ∀ w', Below w.heap.size w w' → K (.bool (usableM s l).2) w') : callM Tryz.prog 30 #[stpV s v, lv] K w := by
  apply sh_30_ok
  unfold sh_30
  obtain ⟨ad, c, rfl⟩ := hs.ints.isSlice
  refine box_kn (cs := stpC s (.slice ad s.bases.length c)) rfl (.start w) fun b W hk hb1 hb => ?_
  unfold usableM at k
  repeat (any_goals ((with_reducible refine idO ?_); (with_reducible refine oM_gen fun Kv hK=>?_); simp [go_sem, hk.cells]; refine hK _ _ ?_; clear hK; clear Kv))
  refine attributes_ok s (hs.next hk.below) (hl.next hk.below) (fun w1 h => ?_)
  have hk := hk.next h
  clear h hb1
  cases hm : (markM s l).2 with
  | false =>
    rw [hm] at k
    repeat (any_goals (with_reducible first|((refine idGd ?_); refine zB ?_)|((refine idPick ?_); refine yC ?_)))
    exact k _ hk.below
  | true =>
    rw [hm, Bool.true_and] at k
    repeat (any_goals (first
    | (with_reducible first|refine pureM_in ?_|((refine idGd ?_); refine zA ?_))
    | ((with_reducible refine idO ?_); (with_reducible refine oM_gen fun Kv hK=>?_); simp [go_sem, hk.cells]; refine hK _ _ ?_; clear hK; clear Kv)))
    refine qMark_ok s (hs.next hk.below) (hl.next hk.below) (fun w2 h => ?_)
    have k := k _ (hk.next h).below
    generalize (markM s l).1 = m at *
    repeat (any_goals (first
    | (with_reducible first|((refine idGd ?_); refine zA ?_)|((refine idPick ?_); refine yB ?_))
    | ((with_reducible refine idO ?_); (with_reducible refine oM_gen fun Kv hK=>?_); simp [go_sem]; refine hK _ _ ?_; clear hK; clear Kv)))
    exact k
theorem in_eq {s : Stp} (hQ : -9223372036854775808 < s.g.Q) (m x : Int) : (decide (m ≤ x) && decide (x ≤ s.g.Q - 1)) = numsM s m [x] := by
  show _ = ((decide (m ≤ x) && decide (x < s.g.Q)) && true)
  rw [Bool.and_true]
  congr 1
  exact decide_eq_decide.2 ⟨fun h => by omega, fun h => by omega⟩
theorem qPublic_ok (s : Stp) (x : Int) {v : Value} (hs : SetR w s v) (k : ∀ w', Below w.heap.size w w' → K (.int .i64 (publicM s x)) w') : callM Tryz.prog 31 #[stpV s v, .int .i64 x] K w := by
  apply sh_31_ok
  unfold sh_31
  obtain ⟨ad, c, rfl⟩ := hs.ints.isSlice
  refine box_kn (cs := stpC s (.slice ad s.bases.length c)) rfl (.start w) fun b W hk hb1 hb => ?_
  unfold publicM at k
  have hQR := hs.grp.2.1
  unfold I64 at hQR
  repeat (any_goals ((with_reducible refine idO ?_); (with_reducible refine oM_gen fun Kv hK=>?_); simp [go_sem, hk.cells]; refine hK _ _ ?_; clear hK; clear Kv))
  refine rValidSetup_ok s (hs.next hk.below) (fun w1 h => ?_)
  have hk := hk.next h
  clear h hb1
  cases hv : validS s with
  | false =>
    rw [hv] at k
    repeat (any_goals (first
    | (with_reducible first|((refine idGd ?_); refine zD ?_)|((refine idPick ?_); refine yB ?_)|((refine idCond ?_); refine yL ?_))
    | ((with_reducible refine idO ?_); (with_reducible refine oM_gen fun Kv hK=>?_); simp [go_sem]; refine hK _ _ ?_; clear hK; clear Kv)))
    exact k _ hk.below
  | true =>
  rw [hv, Bool.true_and] at k
  have hq := validS_Q hv
  repeat (any_goals (first
  | (with_reducible first|refine pureM_in ?_|((refine idGd ?_); refine zC ?_))
  | ((with_reducible refine idO ?_); (with_reducible refine oM_gen fun Kv hK=>?_); simp [go_sem, hk.cells]; (try simp (disch := omega) only [wrapI64, wrapU8, wrapU32, wrapU64]); refine hK _ _ ?_; clear hK; clear Kv)))
  refine in_ok x 1 _ ?_
  rw [in_eq (by omega)]
  cases hn : numsM s 1 [x] with
  | false =>
    rw [hn] at k
    repeat (any_goals (first
    | (with_reducible first|((refine idGd ?_); refine zC ?_)|((refine idPick ?_); refine yC ?_)|((refine idCond ?_); refine yL ?_))
    | ((with_reducible refine idO ?_); (with_reducible refine oM_gen fun Kv hK=>?_); simp [go_sem]; refine hK _ _ ?_; clear hK; clear Kv)))
    exact k _ hk.below
  | true =>
    rw [hn] at k
    repeat (any_goals (first
    | (with_reducible first|((refine idGd ?_); refine zC ?_)|((refine idPick ?_); refine yC ?_)|((refine idCond ?_); refine yM ?_))
    | ((with_reducible refine idO ?_); (with_reducible refine oM_gen fun Kv hK=>?_); simp [go_sem, hk.cells]; refine hK _ _ ?_; clear hK; clear Kv)))
    refine qpower_ok s _ x (hs.next hk.below) (fun w2 h => ?_)
    exact k _ (hk.next h).below
theorem numsM_two (s : Stp) (m a b : Int) : numsM s m [a, b] = (numsM s m [a] && numsM s m [b]) := by
  unfold numsM; simp
theorem qGrant_ok (s : Stp) (x y c : Int) {v : Value} (hs : SetR w s v) (k : ∀ w', Below w.heap.size w w' → K (.int .i64 (grantM s x y c)) w') : callM Tryz.prog 32 #[stpV s v, .int .i64 x, .int .i64 y, .int .i64 c] K w := by
  apply sh_32_ok
  unfold sh_32
  obtain ⟨ad, cc, rfl⟩ := hs.ints.isSlice
  refine box_kn (cs := stpC s (.slice ad s.bases.length cc)) rfl (.start w) fun b W hk hb1 hb => ?_
  unfold grantM at k
  rw [numsM_two] at k
  have hQR := hs.grp.2.1
  unfold I64 at hQR
  repeat (any_goals ((with_reducible refine idO ?_); (with_reducible refine oM_gen fun Kv hK=>?_); simp [go_sem, hk.cells]; refine hK _ _ ?_; clear hK; clear Kv))
  refine rValidSetup_ok s (hs.next hk.below) (fun w1 h => ?_)
  have hk := hk.next h
  clear h hb1
  cases hv : validS s with
  | false =>
    rw [hv] at k
    repeat (any_goals (first
    | (with_reducible first|((refine idGd ?_); refine zD ?_)|((refine idPick ?_); refine yB ?_)|((refine idCond ?_); refine yL ?_))
    | ((with_reducible refine idO ?_); (with_reducible refine oM_gen fun Kv hK=>?_); simp [go_sem]; refine hK _ _ ?_; clear hK; clear Kv)))
    exact k _ hk.below
  | true =>
  rw [hv, Bool.true_and] at k
  have hq := validS_Q hv
  repeat (any_goals (first
  | (with_reducible first|refine pureM_in ?_|((refine idGd ?_); refine zC ?_))
  | ((with_reducible refine idO ?_); (with_reducible refine oM_gen fun Kv hK=>?_); simp [go_sem, hk.cells]; (try simp (disch := omega) only [wrapI64, wrapU8, wrapU32, wrapU64]); refine hK _ _ ?_; clear hK; clear Kv)))
  refine in_ok x 1 _ ?_
  rw [in_eq (by omega)]
  cases hn : numsM s 1 [x] with
  | false =>
    rw [hn] at k
    repeat (any_goals (first
    | (with_reducible first|((refine idGd ?_); first|refine zC ?_|refine zD ?_)|((refine idPick ?_); first|refine yB ?_|refine yC ?_)|((refine idCond ?_); refine yL ?_))
    | ((with_reducible refine idO ?_); (with_reducible refine oM_gen fun Kv hK=>?_); simp [go_sem]; refine hK _ _ ?_; clear hK; clear Kv)))
    exact k _ hk.below
  | true =>
  rw [hn, Bool.true_and] at k
  repeat (any_goals (first
  | (with_reducible first|refine pureM_in ?_|((refine idGd ?_); refine zC ?_)|((refine idPick ?_); refine yC ?_))
  | ((with_reducible refine idO ?_); (with_reducible refine oM_gen fun Kv hK=>?_); simp [go_sem, hk.cells]; (try simp (disch := omega) only [wrapI64, wrapU8, wrapU32, wrapU64]); refine hK _ _ ?_; clear hK; clear Kv)))
  refine in_ok y 0 _ ?_
  rw [in_eq (by omega)]
  cases hn : numsM s 0 [y] with
  | false =>
    rw [hn] at k
    repeat (any_goals (first
    | (with_reducible first|((refine idGd ?_); first|refine zC ?_|refine zD ?_)|((refine idPick ?_); first|refine yB ?_|refine yC ?_)|((refine idCond ?_); refine yL ?_))
    | ((with_reducible refine idO ?_); (with_reducible refine oM_gen fun Kv hK=>?_); simp [go_sem]; refine hK _ _ ?_; clear hK; clear Kv)))
    exact k _ hk.below
  | true =>
  rw [hn, Bool.true_and] at k
  repeat (any_goals (first
  | (with_reducible first|refine pureM_in ?_|((refine idGd ?_); refine zC ?_)|((refine idPick ?_); refine yC ?_))
  | ((with_reducible refine idO ?_); (with_reducible refine oM_gen fun Kv hK=>?_); simp [go_sem, hk.cells]; (try simp (disch := omega) only [wrapI64, wrapU8, wrapU32, wrapU64]); refine hK _ _ ?_; clear hK; clear Kv)))
  refine in_ok c 0 _ ?_
  rw [in_eq (by omega)]
  cases hn : numsM s 0 [c] with
  | false =>
    rw [hn] at k
    repeat (any_goals (first
    | (with_reducible first|((refine idGd ?_); refine zC ?_)|((refine idPick ?_); refine yC ?_)|((refine idCond ?_); refine yL ?_))
    | ((with_reducible refine idO ?_); (with_reducible refine oM_gen fun Kv hK=>?_); simp [go_sem]; refine hK _ _ ?_; clear hK; clear Kv)))
    exact k _ hk.below
  | true =>
  rw [hn] at k
  repeat (any_goals (first
  | (with_reducible first|((refine idGd ?_); refine zC ?_)|((refine idPick ?_); refine yC ?_)|((refine idCond ?_); refine yM ?_))
  | ((with_reducible refine idO ?_); (with_reducible refine oM_gen fun Kv hK=>?_); simp [go_sem]; refine hK _ _ ?_; clear hK; clear Kv)))
  have hk := hk.drew
  refine ⟨Nx { w1 with drawn := w1.drawn + 1 }, Below.refl _ _, rfl, ?_⟩
  generalize ({ w1 with drawn := w1.drawn + 1 } : World) = W at hk ⊢
  repeat (any_goals (first
  | (with_reducible refine pureH_in ?_)
  | ((with_reducible refine idOH ?_); (with_reducible refine oH_of ⟨_, rfl⟩ (fun W0 hW0 => by (refine oM_gen (fun Kv hK => ?_)); simp [go_sem, (hk.next hW0).cells]; (first | exact hK _ _ ⟨rfl, rfl⟩ | exact ⟨by omega, hK _ _ ⟨rfl, rfl⟩⟩)) ?_))))
  refine ⟨Nx, ?_⟩
  apply monoE
  · intro w2 h2
    exact qmul_ok s c x (hs.next (hk.next h2).below) (fun w3 h3 => ⟨h2.on h3, h3, rfl⟩)
  rintro w2 h2 _ rfl
  refine rAdd_ok _ _ _ ?_
  exact k _ (hk.next h2).below
end
end Go.Proofs
namespace Go.Proofs
open Go Go.Sh Go.RowKit FdSpec TkSpec CodeSpec
set_option linter.unusedSimpArgs false
set_option linter.unusedVariables false
set_option maxRecDepth 10000
section
variable {K : Value → World → Prop} {w w0 : World} {L : List (Addr × Value)}
theorem keyM_eq (s : Stp) (x : Int) : keyM s x = (elemG s.g x && !decide (x = 1)) := by
  unfold keyM elementsM
  simp [Bool.and_comm]
theorem Key_ok (s : Stp) (x : Int) {v : Value} (hs : SetR w s v) (k : ∀ w', Below w.heap.size w w' → K (.bool (validS s && keyM s x)) w') : callM Tryz.prog 86 #[stpV s v, .int .i64 x] K w := by
  apply sh_86_ok
  unfold sh_86
  obtain ⟨ad, cc, rfl⟩ := hs.ints.isSlice
  refine box_kn (cs := stpC s (.slice ad s.bases.length cc)) rfl (.start w) fun b W hk hb1 hb => ?_
  rw [keyM_eq] at k
  repeat (any_goals ((with_reducible refine idO ?_); (with_reducible refine oM_gen fun Kv hK=>?_); simp [go_sem, hk.cells]; refine hK _ _ ?_; clear hK; clear Kv))
  refine rValidSetup_ok s (hs.next hk.below) (fun w1 h => ?_)
  have hk := hk.next h
  clear h hb1
  cases hv : validS s with
  | false =>
    rw [hv] at k
    repeat (any_goals (with_reducible first|((refine idGd ?_); refine zB ?_)|((refine idPick ?_); refine yC ?_)))
    exact k _ hk.below
  | true =>
  rw [hv, Bool.true_and] at k
  repeat (any_goals (first
  | (with_reducible first|refine pureM_in ?_|((refine idGd ?_); refine zA ?_))
  | ((with_reducible refine idO ?_); (with_reducible refine oM_gen fun Kv hK=>?_); simp [go_sem, hk.cells]; refine hK _ _ ?_; clear hK; clear Kv)))
  refine rElement_ok s.g x hs.grp (fun w2 h => ?_)
  have hk := hk.next h
  cases he : elemG s.g x with
  | false =>
    rw [he] at k
    repeat (any_goals (with_reducible first|((refine idGd ?_); refine zB ?_)|((refine idPick ?_); first|refine yB ?_|refine yC ?_)))
    exact k _ hk.below
  | true =>
  rw [he, Bool.true_and] at k
  repeat (any_goals (first
  | (with_reducible first|refine pureM_in ?_|((refine idGd ?_); refine zA ?_)|((refine idPick ?_); refine yB ?_))
  | ((with_reducible refine idO ?_); (with_reducible refine oM_gen fun Kv hK=>?_); simp [go_sem]; refine hK _ _ ?_; clear hK; clear Kv)))
  exact k _ hk.below
theorem Blinds_ok (s : Stp) (b : Bld) {v bv : Value} (hv : validS s = true) (hs : SetR w s v) (hb : BldR w b bv) (k : ∀ w', Below w.heap.size w w' → K (.bool (blindsM s b)) w') : callM Tryz.prog 88 #[stpV s v, bldV b bv] K w := by
  apply sh_88_ok
  unfold sh_88
  obtain ⟨ad, cc, rfl⟩ := hs.ints.isSlice
  obtain ⟨yad, yc, rfl⟩ := hb.ys.isSlice
  refine box_kn (cs := stpC s (.slice ad s.bases.length cc)) rfl (.start w) fun b1 W hk hb1 hbb => ?_
  refine box_kn (cs := bldC b (.slice yad b.ys.length yc)) rfl hk fun b3 W3 hk hb3 hbb => ?_
  have hq := validS_Q hv
  have hQR := hs.grp.2.1
  unfold I64 at hQR
  unfold blindsM at k
  rw [numsM_two, Bool.and_assoc, Bool.and_assoc, Bool.and_assoc] at k
  repeat (any_goals ((with_reducible refine idO ?_); (with_reducible refine oM_gen fun Kv hK=>?_); simp [go_sem, hk.cells]; (try simp (disch := omega) only [wrapI64, wrapU8, wrapU32, wrapU64]); refine hK _ _ ?_; clear hK; clear Kv))
  refine in_ok b.s 1 _ ?_
  rw [in_eq (by omega)]
  cases hn : numsM s 1 [b.s] with
  | false =>
    rw [hn] at k
    repeat (any_goals (with_reducible first|((refine idGd ?_); refine zB ?_)|((refine idPick ?_); refine yC ?_)))
    exact k _ hk.below
  | true =>
  rw [hn, Bool.true_and] at k
  repeat (any_goals (first
  | (with_reducible first|refine pureM_in ?_|((refine idGd ?_); refine zA ?_))
  | ((with_reducible refine idO ?_); (with_reducible refine oM_gen fun Kv hK=>?_); simp [go_sem, hk.cells]; (try simp (disch := omega) only [wrapI64, wrapU8, wrapU32, wrapU64]); refine hK _ _ ?_; clear hK; clear Kv)))
  refine in_ok b.u 1 _ ?_
  rw [in_eq (by omega)]
  cases hn : numsM s 1 [b.u] with
  | false =>
    rw [hn] at k
    repeat (any_goals (with_reducible first|((refine idGd ?_); refine zB ?_)|((refine idPick ?_); first|refine yB ?_|refine yC ?_)))
    exact k _ hk.below
  | true =>
  rw [hn, Bool.true_and] at k
  repeat (any_goals (first
  | (with_reducible first|refine pureM_in ?_|((refine idGd ?_); refine zA ?_)|((refine idPick ?_); refine yB ?_))
  | ((with_reducible refine idO ?_); (with_reducible refine oM_gen fun Kv hK=>?_); simp [go_sem, hk.cells]; (try simp (disch := omega) only [wrapI64, wrapU8, wrapU32, wrapU64]); refine hK _ _ ?_; clear hK; clear Kv)))
  refine in_ok b.v 0 _ ?_
  rw [in_eq (by omega)]
  cases hn : numsM s 0 [b.v] with
  | false =>
    rw [hn] at k
    repeat (any_goals (with_reducible first|((refine idGd ?_); refine zB ?_)|((refine idPick ?_); first|refine yB ?_|refine yC ?_)))
    exact k _ hk.below
  | true =>
  rw [hn, Bool.true_and] at k
  repeat (any_goals (first
  | (with_reducible first|((refine idGd ?_); refine zA ?_)|((refine idPick ?_); refine yB ?_))
  | ((with_reducible refine idO ?_); (with_reducible refine oM_gen fun Kv hK=>?_); simp [go_sem, hk.cells]; refine hK _ _ ?_; clear hK; clear Kv)))
  refine residues_ok s _ (by omega) (hs.next hk.below) (hb.ys.next hk.below) (by omega) (fun w2 h => ?_)
  have k := k _ (hk.next h).below
  generalize (decide (b.ys.length = s.bases.length) && numsM s 0 b.ys) = r at *
  repeat (any_goals (with_reducible ((refine idPick ?_); refine yB ?_)))
  exact k
theorem number_ok (s : Stp) (t : Tkt) {v : Value} (ht : TktR t) (hs : SetR w s v) (k : ∀ w', Below w.heap.size w w' → K (.int .i64 (innerQ s t)) w') : callM Tryz.prog 89 #[stpV s v, tktV t] K w := by
  apply sh_89_ok
  unfold sh_89
  obtain ⟨ad, c, rfl⟩ := hs.ints.isSlice
  refine box_kn (cs := stpC s (.slice ad s.bases.length c)) rfl (.start w) fun b W hk hb1 hb => ?_
  refine box_kn (cs := tktC t) rfl hk fun b2 W2 hk hb2 hbb => ?_
  have hk := hk.drew
  refine ⟨Nx { W2 with drawn := W2.drawn + 1 }, Below.refl _ _, rfl, ?_⟩
  generalize ({ W2 with drawn := W2.drawn + 1 } : World) = W at hk ⊢
  repeat (any_goals ((with_reducible refine idOH ?_); (with_reducible refine oH_of ⟨_, rfl⟩ (fun W0 hW0 => by (refine oM_gen (fun Kv hK => ?_)); simp [go_sem, (hk.next hW0).cells]; (first | exact hK _ _ ⟨rfl, rfl⟩ | exact ⟨by omega, hK _ _ ⟨rfl, rfl⟩⟩)) ?_)))
  refine ⟨Nx, monoR (fun v w' => Ints w' v (innL t)) (fun v w w1 hS h => h.next hS) ?_ ?_⟩
  · intro w2 h2
    exact mk5 t.mark t.first t.z t.a t.b ht.mark ht.first ht.z ht.a ht.b (fun v w3 h3 hi => ⟨h2.on h3, h3, hi⟩)
  apply monoE
  · rintro w2 h2 v2 hi
    exact Cd.qNums_ok (innL t) v2 (Ints.rowOf hi) (fun x hx => (InR_iff x).2 (innL_all ht x hx)) (by have := innL_len ht; unfold encNums at this; omega) (fun w3 h3 => ⟨h2.on h3, h3, rfl⟩)
  rintro w2 h2 v2 hi _ rfl
  refine rNumber_ok _ _ (by have := innL_len ht; unfold encNums at this; omega) (fun w4 h4 => ?_)
  exact k _ ((hk.next h2).next h4).below
theorem drawn_ok (s : Stp) (o : Off) (b : Bld) {v lv bv : Value} {l : List Int} (ho : OffR o) (hs : SetR w s v) (hl : Ints w lv l) (hb : BldR w b bv) (k : ∀ w', Below w.heap.size w w' → K (tktV (askTkt s l o b)) w') :
    callM Tryz.prog 90 #[stpV s v, lv, offV o, bldV b bv] K w := by
  apply sh_90_ok
  unfold sh_90
  obtain ⟨ad, cc, rfl⟩ := hs.ints.isSlice
  obtain ⟨yad, yc, rfl⟩ := hb.ys.isSlice
  refine box_kn (cs := stpC s (.slice ad s.bases.length cc)) rfl (.start w) fun b1 W hk hb1 hbb => ?_
  refine box_kn (cs := offC o) rfl hk fun b2 W2 hk hb2 hbb => ?_
  refine box_kn (cs := bldC b (.slice yad b.ys.length yc)) rfl hk fun b3 W3 hk hb3 hbb => ?_
  refine alloc_mine (n := 6) al_tkt rfl hk fun g W4 hk hb4 hg => ?_
  clear hb1 hb2 hb3 hb4
  have hk := hk.drew
  refine ⟨Nx { W4 with drawn := W4.drawn + 1 }, Below.refl _ _, rfl, ?_⟩
  generalize ({ W4 with drawn := W4.drawn + 1 } : World) = W at hk ⊢
  repeat (any_goals (first
  | (with_reducible refine pureH_in ?_)
  | ((with_reducible refine idOH ?_); (with_reducible refine oH_of ⟨_, rfl⟩ (fun W0 hW0 => by (refine oM_gen (fun Kv hK => ?_)); simp [go_sem, (hk.next hW0).cells]; (first | exact hK _ _ ⟨rfl, rfl⟩ | exact ⟨by omega, hK _ _ ⟨rfl, rfl⟩⟩)) ?_))))
  refine ⟨Nx, ?_⟩
  apply monoE
  · intro w1 h1
    exact qMark_ok s (hs.next (hk.next h1).below) (hl.next (hk.next h1).below) (fun w2 h2 => ⟨h1.on h2, h2, rfl⟩)
  apply monoE
  · rintro w1 h1 _ rfl
    exact qpower_ok s _ b.s (hs.next (hk.next h1).below) (fun w2 h2 => ⟨h1.on h2, h2, rfl⟩)
  apply monoE
  · intro w1 h1
    exact qproduct_ok s (hs.next (hk.next h1).below) (hb.ys.next (hk.next h1).below) (fun w2 h2 => ⟨h1.on h2, h2, rfl⟩)
  apply monoE
  · intro w1 h1
    exact qpower_ok s o.z b.s (hs.next (hk.next h1).below) (fun w2 h2 => ⟨h1.on h2, h2, rfl⟩)
  repeat (apply monoE; focus (intro w9 h9; (repeat (intro v9 e9; try (obtain rfl := e9))); (repeat (any_goals ((with_reducible refine idO ?_); (with_reducible refine oM_gen fun Kv hK=>?_); simp [go_sem, build_t3]; refine hK _ _ ?_; clear hK; clear Kv))); exact ⟨h9, Below.refl _ _, rfl⟩))
  refine monoR (fun v w' => ∃ g2, v = ptr g2 0 ∧ W.heap.size ≤ g2 ∧ Holds w' g2 43 (tktC zT)) (fun v w w1 hS h => h.imp fun g2 h => ⟨h.1, h.2.1, h.2.2.next hS⟩) ?_ ?_
  · intro w1 h1
    exact arr_alloc al_tkt (fun g2 w2 h2 hg2 hh => ⟨h1.on h2, h2, g2, rfl, Nat.le_trans h1.size hg2, hh⟩)
  (intro w9 h9; repeat (intro v9 e9; try (obtain rfl := e9)))
  obtain ⟨g2, rfl, hg2, hh⟩ := e9
  refine arr_store sz_tkt (xs := tktC ⟨powerG s.g (markM s l).1 b.s, (prodG s.g s.bases b.ys).1, powerG s.g o.z b.s, 0, 0, 0⟩) rfl rfl (tkt_one _) hh rfl (fun w10 hg10 hh => ?_)
  have h10 := grown_below h9 hg10 hg2
  clear hg10 h9
  have h10 := h10.on (.drawn (B := w10.heap.size))
  have hh := hh.next (.drawn (B := w10.heap.size))
  refine ⟨Nx { w10 with drawn := w10.drawn + 1 }, Below.refl _ _, rfl, ?_⟩
  generalize ({ w10 with drawn := w10.drawn + 1 } : World) = W10 at h10 hh ⊢
  repeat (any_goals ((with_reducible refine idOH ?_); (with_reducible refine oH_of ⟨_, rfl⟩ (fun W0 hW0 => by (refine oM_gen (fun Kv hK => ?_)); simp [go_sem, (hk.next (h10.on hW0)).cells]; (first | exact hK _ _ ⟨rfl, rfl⟩ | exact ⟨by omega, hK _ _ ⟨rfl, rfl⟩⟩)) ?_)))
  refine ⟨Nx, ?_⟩
  apply monoE
  · intro w1 h1
    exact qpower_ok s o.a b.u (hs.next (hk.next (h10.on h1)).below) (fun w2 h2 => ⟨h1.on h2, h2, rfl⟩)
  apply monoE
  · intro w1 h1
    exact qpower_ok s _ b.v (hs.next (hk.next (h10.on h1)).below) (fun w2 h2 => ⟨h1.on h2, h2, rfl⟩)
  rintro w1 h1 _ rfl _ rfl
  refine qtimes_ok s _ _ (hs.next (hk.next (h10.on h1)).below) (fun w2 h2 => ?_)
  have hh := (hh.next h1).next h2
  have h10 := (h10.on h1).on h2
  repeat (any_goals ((with_reducible refine idO ?_); (with_reducible refine oM_gen fun Kv hK=>?_); simp [go_sem]; refine hK _ _ ?_; clear hK; clear Kv))
  refine arr_set (i := 3) sz_int rfl rfl hh (show 3 < 6 by decide) (fun w10 hg10 hh => ?_)
  have hh : Holds w10 g2 43 (tktC ⟨powerG s.g (markM s l).1 b.s, (prodG s.g s.bases b.ys).1, powerG s.g o.z b.s, timesM s (powerG s.g o.a b.u) [genM s b.v], 0, 0⟩) := hh
  have h10 := grown_below h10 hg10 hg2
  clear hg10
  have h10 := h10.on (.drawn (B := w10.heap.size))
  have hh := hh.next (.drawn (B := w10.heap.size))
  refine ⟨Nx { w10 with drawn := w10.drawn + 1 }, Below.refl _ _, rfl, ?_⟩
  generalize ({ w10 with drawn := w10.drawn + 1 } : World) = W10 at h10 hh ⊢
  repeat (any_goals ((with_reducible refine idOH ?_); (with_reducible refine oH_of ⟨_, rfl⟩ (fun W0 hW0 => by (refine oM_gen (fun Kv hK => ?_)); simp [go_sem, (hk.next (h10.on hW0)).cells, (hh.next hW0).are]; (first | exact hK _ _ ⟨rfl, rfl⟩ | exact ⟨by omega, hK _ _ ⟨rfl, rfl⟩⟩)) ?_)))
  refine ⟨Nx, ?_⟩
  apply monoE
  · intro w1 h1
    exact qmul_ok s b.s b.u (hs.next (hk.next (h10.on h1)).below) (fun w2 h2 => ⟨h1.on h2, h2, rfl⟩)
  apply monoE
  · rintro w1 h1 _ rfl
    exact qpower_ok s o.b _ (hs.next (hk.next (h10.on h1)).below) (fun w2 h2 => ⟨h1.on h2, h2, rfl⟩)
  apply monoE
  · intro w1 h1
    exact qpower_ok s _ b.v (hs.next (hk.next (h10.on h1)).below) (fun w2 h2 => ⟨h1.on h2, h2, rfl⟩)
  rintro w1 h1 _ rfl _ rfl _ rfl
  refine qtimes_ok s _ _ (hs.next (hk.next (h10.on h1)).below) (fun w2 h2 => ?_)
  have hh := (hh.next h1).next h2
  have h10 := (h10.on h1).on h2
  repeat (any_goals ((with_reducible refine idO ?_); (with_reducible refine oM_gen fun Kv hK=>?_); simp [go_sem]; refine hK _ _ ?_; clear hK; clear Kv))
  refine arr_set (i := 4) sz_int rfl rfl hh (show 4 < 6 by decide) (fun w10 hg10 hh => ?_)
  have hh : Holds w10 g2 43 (tktC (askTkt s l o b)) := hh
  have h10 := grown_below h10 hg10 hg2
  have hk := hk.next h10
  repeat (any_goals ((with_reducible refine idO ?_); (with_reducible refine oM_gen fun Kv hK=>?_); simp [go_sem, hh.are]; refine hK _ _ ?_; clear hK; clear Kv))
  exact store_tkt (askTkt s l o b) hk (fun W3 hk hc => ⟨_, by simp [go_sem, hc], k _ hk.below⟩)
end
end Go.Proofs
namespace Go.Proofs
open Go Go.Sh Go.RowKit FdSpec TkSpec CodeSpec
set_option linter.unusedSimpArgs false
set_option linter.unusedVariables false
set_option maxRecDepth 10000
section
variable {K : Value → World → Prop} {w w0 : World} {L : List (Addr × Value)}
theorem build_off0 (T : TypeId) : oM Tryz.prog (Go.Op.build 39 #[]) T [] = pureM (offV ⟨0, 0, 0⟩) := by
  funext K w
  kernel_rfl
theorem build_off3 (T : TypeId) (a b c : Int) : oM Tryz.prog (Go.Op.build 39 #[(0, (.tmp 0)), (1, (.tmp 1)), (2, (.tmp 2))]) T [.int .i64 a, .int .i64 b, .int .i64 c] = pureM (offV ⟨a, b, c⟩) := by
  funext K w
  kernel_rfl
theorem usable_valid {s : Stp} {l : List Int} (h : (usableM s l).2 = true) : validS s = true := by
  cases hv : validS s with
  | true => rfl
  | false =>
    unfold usableM markM at h
    rw [hv] at h
    simp at h
theorem qPropose_ok (s : Stp) (x y : Int) {v lv : Value} {l : List Int} (hs : SetR w s v) (hl : Ints w lv l) (k : ∀ w', Below w.heap.size w w' → K (.tuple #[offV (proposeM s x l y).1, .int .i64 (proposeM s x l y).2]) w') : callM Tryz.prog 24 #[stpV s v, .int .i64 x, lv, .int .i64 y] K w := by
  apply sh_24_ok
  unfold sh_24
  obtain ⟨ad, cc, rfl⟩ := hs.ints.isSlice
  have k2 : ∀ w' r, proposeM s x l y = r → Below w.heap.size w w' → K (.tuple #[offV r.1, .int .i64 r.2]) w' := fun w' r e hb => by rw [← e]; exact k w' hb
  clear k
  refine box_kn (cs := stpC s (.slice ad s.bases.length cc)) rfl (.start w) fun b W hk hb1 hb => ?_
  refine alloc_mine (n := 3) al_off rfl hk fun g W2 hk hb2 hg => ?_
  have hQR := hs.grp.2.1
  unfold I64 at hQR
  repeat (any_goals ((with_reducible refine idO ?_); (with_reducible refine oM_gen fun Kv hK=>?_); simp [go_sem, hk.cells]; refine hK _ _ ?_; clear hK; clear Kv))
  refine qUsable_ok s (hs.next hk.below) (hl.next hk.below) (fun w1 h => ?_)
  have hk := hk.next h
  clear h hb1 hb2
  cases hu : (usableM s l).2 with
  | false =>
    repeat (any_goals (first
    | (with_reducible first|((refine idGd ?_); refine zD ?_)|((refine idPick ?_); refine yB ?_)|((refine idCond ?_); refine yL ?_))
    | ((with_reducible refine idO ?_); (with_reducible refine oM_gen fun Kv hK=>?_); simp [go_sem, hk.cells, build_off0]; refine hK _ _ ?_; clear hK; clear Kv)))
    exact store_off ⟨0, 0, 0⟩ hk (fun W3 hk hc => ⟨_, by simp [go_sem, hc], k2 _ _ (propose_no (.inl hu)) hk.below⟩)
  | true =>
  have hq := validS_Q (usable_valid hu)
  repeat (any_goals (first
  | (with_reducible first|refine pureM_in ?_|((refine idGd ?_); refine zC ?_))
  | ((with_reducible refine idO ?_); (with_reducible refine oM_gen fun Kv hK=>?_); simp [go_sem, hk.cells]; (try simp (disch := omega) only [wrapI64, wrapU8, wrapU32, wrapU64]); refine hK _ _ ?_; clear hK; clear Kv)))
  refine in_ok x 1 _ ?_
  rw [in_eq (by omega)]
  cases hn : numsM s 1 [x] with
  | false =>
    repeat (any_goals (first
    | (with_reducible first|((refine idGd ?_); first|refine zC ?_|refine zD ?_)|((refine idPick ?_); first|refine yB ?_|refine yC ?_)|((refine idCond ?_); refine yL ?_))
    | ((with_reducible refine idO ?_); (with_reducible refine oM_gen fun Kv hK=>?_); simp [go_sem, hk.cells, build_off0]; refine hK _ _ ?_; clear hK; clear Kv)))
    exact store_off ⟨0, 0, 0⟩ hk (fun W3 hk hc => ⟨_, by simp [go_sem, hc], k2 _ _ (propose_no (.inr (.inl hn))) hk.below⟩)
  | true =>
  repeat (any_goals (first
  | (with_reducible first|refine pureM_in ?_|((refine idGd ?_); refine zC ?_)|((refine idPick ?_); refine yC ?_))
  | ((with_reducible refine idO ?_); (with_reducible refine oM_gen fun Kv hK=>?_); simp [go_sem, hk.cells]; (try simp (disch := omega) only [wrapI64, wrapU8, wrapU32, wrapU64]); refine hK _ _ ?_; clear hK; clear Kv)))
  refine in_ok y 0 _ ?_
  rw [in_eq (by omega)]
  cases hn2 : numsM s 0 [y] with
  | false =>
    repeat (any_goals (first
    | (with_reducible first|((refine idGd ?_); refine zC ?_)|((refine idPick ?_); refine yC ?_)|((refine idCond ?_); refine yL ?_))
    | ((with_reducible refine idO ?_); (with_reducible refine oM_gen fun Kv hK=>?_); simp [go_sem, hk.cells, build_off0]; refine hK _ _ ?_; clear hK; clear Kv)))
    exact store_off ⟨0, 0, 0⟩ hk (fun W3 hk hc => ⟨_, by simp [go_sem, hc], k2 _ _ (propose_no (.inr (.inr hn2))) hk.below⟩)
  | true =>
  have e : proposeM s x l y = (⟨powerG s.g (markM s l).1 x, genM s y, powerG s.g (markM s l).1 y⟩, 0) := by
    unfold proposeM
    rw [hu, hn, hn2]; rfl
  repeat (any_goals (first
  | (with_reducible first|((refine idGd ?_); refine zC ?_)|((refine idPick ?_); refine yC ?_)|((refine idCond ?_); refine yM ?_))
  | ((with_reducible refine idO ?_); (with_reducible refine oM_gen fun Kv hK=>?_); simp [go_sem, hk.cells]; refine hK _ _ ?_; clear hK; clear Kv)))
  refine qMark_ok s (hs.next hk.below) (hl.next hk.below) (fun w2 h => ?_)
  have hk := hk.next h
  clear h
  have hk := hk.drew
  refine ⟨Nx { w2 with drawn := w2.drawn + 1 }, Below.refl _ _, rfl, ?_⟩
  generalize ({ w2 with drawn := w2.drawn + 1 } : World) = W at hk ⊢
  repeat (any_goals (first
  | (with_reducible refine pureH_in ?_)
  | ((with_reducible refine idOH ?_); (with_reducible refine oH_of ⟨_, rfl⟩ (fun W0 hW0 => by (refine oM_gen (fun Kv hK => ?_)); simp [go_sem, (hk.next hW0).cells]; (first | exact hK _ _ ⟨rfl, rfl⟩ | exact ⟨by omega, hK _ _ ⟨rfl, rfl⟩⟩)) ?_))))
  refine ⟨Nx, ?_⟩
  apply monoE
  · intro w1 h1
    exact qpower_ok s _ x (hs.next (hk.next h1).below) (fun w2 h2 => ⟨h1.on h2, h2, rfl⟩)
  apply monoE
  · intro w1 h1
    exact qpower_ok s _ y (hs.next (hk.next h1).below) (fun w2 h2 => ⟨h1.on h2, h2, rfl⟩)
  rintro w1 h1 _ rfl _ rfl
  refine qpower_ok s _ y (hs.next (hk.next h1).below) (fun w3 h3 => ?_)
  have hk := (hk.next h1).next h3
  repeat (any_goals ((with_reducible refine idO ?_); (with_reducible refine oM_gen fun Kv hK=>?_); simp [go_sem, build_off3]; refine hK _ _ ?_; clear hK; clear Kv))
  exact store_off ⟨powerG s.g (markM s l).1 x, genM s y, powerG s.g (markM s l).1 y⟩ hk (fun W3 hk hc => ⟨_, by simp [go_sem, hc], k2 _ _ e hk.below⟩)
theorem local_tktH {K : Value → World → Prop} {T' T2 : TypeId} (t : Tkt) (k : ∀ b W, Holds W b 43 (tktC t) → Below w.heap.size w W → w.heap.size ≤ b → K (.pointer (some ⟨b, 0, none⟩)) W) :
    oM Tryz.prog (.alloc 43) T' [] (fun v w => oM Tryz.prog (.store 43 (.tmp 0) (.tmp 1)) T2 [v, tktV t] (fun _ w => K v w) w) w :=
  arr_alloc al_tkt fun gq w3 h3 hgq hh => arr_store sz_tkt (xs := tktC t) rfl rfl (tkt_one t) hh rfl fun w4 hg4 hh => k gq w4 hh (grown_below h3 hg4 hgq) hgq
theorem elements3 (s : Stp) (a b c : Int) : elementsM s [a, b, c] = (elemG s.g a && (elemG s.g b && elemG s.g c)) := by
  unfold elementsM; simp
theorem qAsk_ok (s : Stp) (key : Int) (o : Off) (b : Bld) {v lv bv : Value} {l : List Int} (ho : OffR o) (hs : SetR w s v) (hl : Ints w lv l) (hb : BldR w b bv)
    (k : ∀ w', Below w.heap.size w w' → K (.tuple #[.int .i64 (askM s key l o b).1, .int .i64 (askM s key l o b).2]) w') :
    callM Tryz.prog 25 #[stpV s v, .int .i64 key, lv, offV o, bldV b bv] K w := by
  apply sh_25_ok
  unfold sh_25
  obtain ⟨ad, cc, rfl⟩ := hs.ints.isSlice
  have hb' := hb
  obtain ⟨yad, yc, rfl⟩ := hb.ys.isSlice
  refine box_kn (cs := stpC s (.slice ad s.bases.length cc)) rfl (.start w) fun b1 W hk hb1 hbb => ?_
  refine box_kn (cs := offC o) rfl hk fun b2 W2 hk hb2 hbb => ?_
  refine box_kn (cs := bldC b (.slice yad b.ys.length yc)) rfl hk fun b3 W3 hk hb3 hbb => ?_
  clear hb1 hb2 hb3
  have k1 : askFine s key l o b = false → ∀ w', Below w.heap.size w w' → K (.tuple #[.int .i64 0, .int .i64 1]) w' := fun hf w' hb => by
    have := k w' hb
    have e : askErr s key l o b = 1 := by unfold askErr; rw [hf]; rfl
    unfold askM at this
    rw [e] at this
    exact this
  repeat (any_goals ((with_reducible refine idO ?_); (with_reducible refine oM_gen fun Kv hK=>?_); simp [go_sem, hk.cells]; refine hK _ _ ?_; clear hK; clear Kv))
  refine qUsable_ok s (hs.next hk.below) (hl.next hk.below) (fun w1 h => ?_)
  have hk := hk.next h
  clear h
  cases hu : (usableM s l).2 with
  | false =>
    repeat (any_goals (first
    | (with_reducible first|((refine idGd ?_); refine zD ?_)|((refine idPick ?_); refine yB ?_)|((refine idCond ?_); refine yL ?_))
    | ((with_reducible refine idO ?_); (with_reducible refine oM_gen fun Kv hK=>?_); simp [go_sem]; refine hK _ _ ?_; clear hK; clear Kv)))
    exact k1 (by unfold askFine; rw [hu]; simp) _ hk.below
  | true =>
  have hv := usable_valid hu
  repeat (any_goals (first
  | (with_reducible first|refine pureM_in ?_|((refine idGd ?_); refine zC ?_))
  | ((with_reducible refine idO ?_); (with_reducible refine oM_gen fun Kv hK=>?_); simp [go_sem, hk.cells]; refine hK _ _ ?_; clear hK; clear Kv)))
  refine Key_ok s key (hs.next hk.below) (fun w2 h => ?_)
  have hk := hk.next h
  clear h
  rw [hv, Bool.true_and]
  cases hke : keyM s key with
  | false =>
    repeat (any_goals (first
    | (with_reducible first|((refine idGd ?_); refine zC ?_)|((refine idPick ?_); refine yC ?_)|((refine idCond ?_); refine yL ?_))
    | ((with_reducible refine idO ?_); (with_reducible refine oM_gen fun Kv hK=>?_); simp [go_sem]; refine hK _ _ ?_; clear hK; clear Kv)))
    exact k1 (by unfold askFine; rw [hke]; simp) _ hk.below
  | true =>
  repeat (any_goals (first
  | (with_reducible first|((refine idGd ?_); refine zC ?_)|((refine idPick ?_); refine yC ?_)|((refine idCond ?_); refine yM ?_))
  | ((with_reducible refine idO ?_); (with_reducible refine oM_gen fun Kv hK=>?_); simp [go_sem, hk.cells]; refine hK _ _ ?_; clear hK; clear Kv)))
  refine rElement_ok s.g o.z hs.grp (fun w2 h => ?_)
  have hk := hk.next h
  clear h
  cases he1 : elemG s.g o.z with
  | false =>
    repeat (any_goals (first
    | (with_reducible first|((refine idGd ?_); refine zD ?_)|((refine idPick ?_); refine yB ?_)|((refine idCond ?_); refine yL ?_))
    | ((with_reducible refine idO ?_); (with_reducible refine oM_gen fun Kv hK=>?_); simp [go_sem, hk.cells]; refine hK _ _ ?_; clear hK; clear Kv)))
    exact k1 (by unfold askFine; rw [elements3, he1]; simp) _ hk.below
  | true =>
  repeat (any_goals (first
  | (with_reducible ((refine idGd ?_); refine zC ?_))
  | ((with_reducible refine idO ?_); (with_reducible refine oM_gen fun Kv hK=>?_); simp [go_sem, hk.cells]; refine hK _ _ ?_; clear hK; clear Kv)))
  refine rElement_ok s.g o.a hs.grp (fun w2 h => ?_)
  have hk := hk.next h
  clear h
  cases he2 : elemG s.g o.a with
  | false =>
    repeat (any_goals (first
    | (with_reducible first|((refine idGd ?_); first|refine zC ?_|refine zD ?_)|((refine idPick ?_); first|refine yB ?_|refine yC ?_)|((refine idCond ?_); refine yL ?_))
    | ((with_reducible refine idO ?_); (with_reducible refine oM_gen fun Kv hK=>?_); simp [go_sem, hk.cells]; refine hK _ _ ?_; clear hK; clear Kv)))
    exact k1 (by unfold askFine; rw [elements3, he2]; simp) _ hk.below
  | true =>
  repeat (any_goals (first
  | (with_reducible first|((refine idGd ?_); refine zC ?_)|((refine idPick ?_); refine yC ?_))
  | ((with_reducible refine idO ?_); (with_reducible refine oM_gen fun Kv hK=>?_); simp [go_sem, hk.cells]; refine hK _ _ ?_; clear hK; clear Kv)))
  refine rElement_ok s.g o.b hs.grp (fun w2 h => ?_)
  have hk := hk.next h
  clear h
  cases he3 : elemG s.g o.b with
  | false =>
    repeat (any_goals (first
    | (with_reducible first|((refine idGd ?_); first|refine zC ?_|refine zD ?_)|((refine idPick ?_); first|refine yB ?_|refine yC ?_)|((refine idCond ?_); refine yL ?_))
    | ((with_reducible refine idO ?_); (with_reducible refine oM_gen fun Kv hK=>?_); simp [go_sem, hk.cells]; refine hK _ _ ?_; clear hK; clear Kv)))
    exact k1 (by unfold askFine; rw [elements3, he3]; simp) _ hk.below
  | true =>
  by_cases hz1 : o.z = 1
  · repeat (any_goals (first
    | (with_reducible first|((refine idGd ?_); first|refine zC ?_|refine zD ?_)|((refine idPick ?_); first|refine yB ?_|refine yC ?_)|((refine idCond ?_); refine yL ?_))
    | ((with_reducible refine idO ?_); (with_reducible refine oM_gen fun Kv hK=>?_); simp [go_sem, hk.cells, hz1]; refine hK _ _ ?_; clear hK; clear Kv)))
    exact k1 (by unfold askFine; rw [hz1]; simp) _ hk.below
  repeat (any_goals (first
  | (with_reducible first|((refine idGd ?_); refine zC ?_)|((refine idPick ?_); refine yC ?_))
  | ((with_reducible refine idO ?_); (with_reducible refine oM_gen fun Kv hK=>?_); simp [go_sem, hk.cells, hz1]; refine hK _ _ ?_; clear hK; clear Kv)))
  refine Blinds_ok s b hv (hs.next hk.below) (hb'.next hk.below) (fun w5 h => ?_)
  have hk := hk.next h
  clear h
  cases hbl : blindsM s b with
  | false =>
    repeat (any_goals (first
    | (with_reducible first|((refine idGd ?_); refine zC ?_)|((refine idPick ?_); refine yC ?_)|((refine idCond ?_); refine yL ?_))
    | ((with_reducible refine idO ?_); (with_reducible refine oM_gen fun Kv hK=>?_); simp [go_sem]; refine hK _ _ ?_; clear hK; clear Kv)))
    exact k1 (by unfold askFine; rw [hbl]; simp) _ hk.below
  | true =>
  have fine : askFine s key l o b = true := by unfold askFine; rw [hu, hke, elements3, he1, he2, he3, hbl, decide_eq_false hz1]; rfl
  clear k1
  repeat (any_goals (first
  | (with_reducible first|((refine idGd ?_); refine zC ?_)|((refine idPick ?_); refine yC ?_)|((refine idCond ?_); refine yM ?_))
  | ((with_reducible refine idO ?_); (with_reducible refine oM_gen fun Kv hK=>?_); simp [go_sem]; refine hK _ _ ?_; clear hK; clear Kv)))
  have hk := hk.drew
  refine ⟨Nx { w5 with drawn := w5.drawn + 1 }, Below.refl _ _, rfl, ?_⟩
  generalize ({ w5 with drawn := w5.drawn + 1 } : World) = W at hk ⊢
  repeat (any_goals (first
  | (with_reducible refine pureH_in ?_)
  | ((with_reducible refine idOH ?_); (with_reducible refine oH_of ⟨_, rfl⟩ (fun W0 hW0 => by (refine oM_gen (fun Kv hK => ?_)); simp [go_sem, (hk.next hW0).cells]; (first | exact hK _ _ ⟨rfl, rfl⟩ | exact ⟨by omega, hK _ _ ⟨rfl, rfl⟩⟩)) ?_))))
  refine ⟨Nx, ?_⟩
  apply monoE
  · intro w1 h1
    exact drawn_ok s o b ho (hs.next (hk.next h1).below) (hl.next (hk.next h1).below) (hb'.next (hk.next h1).below) (fun w2 h2 => ⟨h1.on h2, h2, rfl⟩)
  rintro w1 h1 _ rfl
  have hk := hk.next h1
  refine number_ok s _ (askTkt_R s l o b) (hs.next hk.below) (fun w3 h3 => ?_)
  have hk := hk.next h3
  unfold askM askErr askC at k
  rw [if_pos fine] at k
  generalize innerQ s (askTkt s l o b) = q at *
  by_cases hq0 : q = 0
  · rw [if_pos hq0] at k
    repeat (any_goals (first
    | (with_reducible ((refine idCond ?_); refine yL ?_))
    | ((with_reducible refine idO ?_); (with_reducible refine oM_gen fun Kv hK=>?_); simp [go_sem, hq0]; refine hK _ _ ?_; clear hK; clear Kv)))
    exact k _ hk.below
  · rw [if_neg hq0] at k
    repeat (any_goals (first
    | (with_reducible ((refine idCond ?_); refine yM ?_))
    | ((with_reducible refine idO ?_); (with_reducible refine oM_gen fun Kv hK=>?_); simp [go_sem, hk.cells, hq0]; refine hK _ _ ?_; clear hK; clear Kv)))
    refine qover_ok s q b.u (hs.next hk.below) (fun w4 h4 => ?_)
    exact k _ (hk.next h4).below
theorem qFinish_ok (s : Stp) (key r : Int) (o : Off) (b : Bld) {v lv bv : Value} {l : List Int} (ho : OffR o) (hs : SetR w s v) (hl : Ints w lv l) (hb : BldR w b bv)
    (k : ∀ w', Below w.heap.size w w' → K (.tuple #[tktV (finishM s key l o b r).1, .int .i64 (finishM s key l o b r).2]) w') :
    callM Tryz.prog 26 #[stpV s v, .int .i64 key, lv, offV o, bldV b bv, .int .i64 r] K w := by
  apply sh_26_ok
  unfold sh_26
  obtain ⟨ad, cc, rfl⟩ := hs.ints.isSlice
  have hb' := hb
  obtain ⟨yad, yc, rfl⟩ := hb.ys.isSlice
  have k2 : ∀ w' x, finishM s key l o b r = x → Below w.heap.size w w' → K (.tuple #[tktV x.1, .int .i64 x.2]) w' := fun w' x e hb => by rw [← e]; exact k w' hb
  clear k
  have hQR := hs.grp.2.1
  unfold I64 at hQR
  refine box_kn (cs := stpC s (.slice ad s.bases.length cc)) rfl (.start w) fun b1 W hk hb1 hbb => ?_
  refine box_kn (cs := offC o) rfl hk fun b2 W2 hk hb2 hbb => ?_
  refine box_kn (cs := bldC b (.slice yad b.ys.length yc)) rfl hk fun b3 W3 hk hb3 hbb => ?_
  refine alloc_mine (n := 6) al_tkt rfl hk fun g W hk hb4 hg => ?_
  clear hb1 hb2 hb3 hb4
  unfold finishM at k2
  repeat (any_goals ((with_reducible refine idO ?_); (with_reducible refine oM_gen fun Kv hK=>?_); simp [go_sem, hk.cells]; refine hK _ _ ?_; clear hK; clear Kv))
  refine qAsk_ok s key o b ho (hs.next hk.below) (hl.next hk.below) (hb'.next hk.below) (fun w2 h2 => ?_)
  have hk := hk.next h2
  clear h2
  unfold askM
  by_cases he : askErr s key l o b = 0
  · rw [he] at k2 ⊢
    rw [if_pos rfl]
    rw [if_neg (by decide)] at k2
    have hv : validS s = true := by
      unfold askErr at he
      split at he
      · rename_i hf
        unfold askFine at hf
        simp only [Bool.and_eq_true] at hf
        exact usable_valid hf.1.1.1.1
      · cases he
    have hq := validS_Q hv
    repeat (any_goals (first
    | (with_reducible ((refine idCond ?_); refine yM ?_))
    | ((with_reducible refine idO ?_); (with_reducible refine oM_gen fun Kv hK=>?_); simp [go_sem, hk.cells]; (try simp (disch := omega) only [wrapI64, wrapU8, wrapU32, wrapU64]); refine hK _ _ ?_; clear hK; clear Kv)))
    refine in_ok r 0 _ ?_
    rw [in_eq (by omega)]
    cases hn : numsM s 0 [r] with
    | false =>
      rw [hn] at k2
      have k2 := fun w' => k2 w' _ rfl
      repeat (any_goals (first
      | (with_reducible ((refine idCond ?_); refine yL ?_))
      | ((with_reducible refine idO ?_); (with_reducible refine oM_gen fun Kv hK=>?_); simp [go_sem, hk.cells, build_tkt0]; refine hK _ _ ?_; clear hK; clear Kv)))
      exact store_tkt zT hk (fun W3 hk hc => ⟨_, by simp [go_sem, hc], k2 _ hk.below⟩)
    | true =>
    rw [hn, if_neg (by decide)] at k2
    repeat (any_goals (first
    | (with_reducible ((refine idCond ?_); refine yM ?_))
    | ((with_reducible refine idO ?_); (with_reducible refine oM_gen fun Kv hK=>?_); simp [go_sem]; refine hK _ _ ?_; clear hK; clear Kv)))
    have hk := hk.drew
    refine ⟨Nx { w2 with drawn := w2.drawn + 1 }, Below.refl _ _, rfl, ?_⟩
    generalize ({ w2 with drawn := w2.drawn + 1 } : World) = W at hk ⊢
    repeat (any_goals (first
    | (with_reducible refine pureH_in ?_)
    | ((with_reducible refine idOH ?_); (with_reducible refine oH_of ⟨_, rfl⟩ (fun W0 hW0 => by (refine oM_gen (fun Kv hK => ?_)); simp [go_sem, (hk.next hW0).cells]; (first | exact hK _ _ ⟨rfl, rfl⟩ | exact ⟨by omega, hK _ _ ⟨rfl, rfl⟩⟩)) ?_))))
    refine ⟨Nx, ?_⟩
    apply monoE
    · intro w1 h1
      exact qpower_ok s _ r (hs.next (hk.next h1).below) (fun w2 h2 => ⟨h1.on h2, h2, rfl⟩)
    apply monoE
    · intro w1 h1
      exact qpower_ok s _ _ (hs.next (hk.next h1).below) (fun w2 h2 => ⟨h1.on h2, h2, rfl⟩)
    rintro w1 h1 _ rfl _ rfl
    have hk := hk.next h1
    clear h1
    refine qtimes_ok s _ _ (hs.next hk.below) (fun w3 h3 => ?_)
    have hk := hk.next h3
    clear h3
    have es : signedM s key (usableM s l).1 (askC s l o b) r o = (decide (powerG s.g s.g.G r = timesM s (powerG s.g key (askC s l o b)) [o.a]) && decide (powerG s.g (markM s l).1 r = timesM s (powerG s.g o.z (askC s l o b)) [o.b])) := rfl
    rw [es] at k2
    clear es
    repeat (any_goals ((with_reducible refine idO ?_); (with_reducible refine oM_gen fun Kv hK=>?_); simp [go_sem]; refine hK _ _ ?_; clear hK; clear Kv))
    generalize decide (powerG s.g s.g.G r = timesM s (powerG s.g key (askC s l o b)) [o.a]) = p1 at *
    have hk := hk.drew
    refine ⟨Nx { w3 with drawn := w3.drawn + 1 }, Below.refl _ _, rfl, ?_⟩
    generalize ({ w3 with drawn := w3.drawn + 1 } : World) = W at hk ⊢
    repeat (any_goals (first
    | (with_reducible refine pureH_in ?_)
    | ((with_reducible refine idOH ?_); (with_reducible refine oH_of ⟨_, rfl⟩ (fun W0 hW0 => by (refine oM_gen (fun Kv hK => ?_)); simp [go_sem, (hk.next hW0).cells]; (first | exact hK _ _ ⟨rfl, rfl⟩ | exact ⟨by omega, hK _ _ ⟨rfl, rfl⟩⟩)) ?_))))
    refine ⟨Nx, ?_⟩
    apply monoE
    · intro w1 h1
      exact qMark_ok s (hs.next (hk.next h1).below) (hl.next (hk.next h1).below) (fun w2 h2 => ⟨h1.on h2, h2, rfl⟩)
    apply monoE
    · rintro w1 h1 _ rfl
      exact qpower_ok s _ r (hs.next (hk.next h1).below) (fun w2 h2 => ⟨h1.on h2, h2, rfl⟩)
    apply monoE
    · intro w1 h1
      exact qpower_ok s _ _ (hs.next (hk.next h1).below) (fun w2 h2 => ⟨h1.on h2, h2, rfl⟩)
    rintro w1 h1 _ rfl _ rfl _ rfl
    have hk := hk.next h1
    clear h1
    refine qtimes_ok s _ _ (hs.next hk.below) (fun w3 h3 => ?_)
    have hk := hk.next h3
    clear h3
    by_cases hp2 : powerG s.g (markM s l).1 r = timesM s (powerG s.g o.z (askC s l o b)) [o.b]
    rotate_left
    · rw [decide_eq_false hp2, Bool.and_false] at k2
      have k2 := fun w' => k2 w' _ rfl
      cases p1 with
      | false =>
        repeat (any_goals (first
        | (with_reducible first|((refine idGd ?_); refine zD ?_)|((refine idPick ?_); refine yB ?_)|((refine idCond ?_); refine yL ?_))
        | ((with_reducible refine idO ?_); (with_reducible refine oM_gen fun Kv hK=>?_); simp [go_sem, hk.cells, build_tkt0, hp2]; refine hK _ _ ?_; clear hK; clear Kv)))
        exact store_tkt zT hk (fun W3 hk hc => ⟨_, by simp [go_sem, hc], k2 _ hk.below⟩)
      | true =>
        repeat (any_goals (first
        | (with_reducible first|refine pureM_in ?_|((refine idGd ?_); refine zC ?_)|((refine idPick ?_); refine yC ?_)|((refine idCond ?_); refine yL ?_))
        | ((with_reducible refine idO ?_); (with_reducible refine oM_gen fun Kv hK=>?_); simp [go_sem, hk.cells, build_tkt0, hp2]; refine hK _ _ ?_; clear hK; clear Kv)))
        exact store_tkt zT hk (fun W3 hk hc => ⟨_, by simp [go_sem, hc], k2 _ hk.below⟩)
    rw [decide_eq_true hp2, Bool.and_true] at k2
    cases p1 with
    | false =>
      have k2 := fun w' => k2 w' _ rfl
      repeat (any_goals (first
      | (with_reducible first|((refine idGd ?_); refine zD ?_)|((refine idPick ?_); refine yB ?_)|((refine idCond ?_); refine yL ?_))
      | ((with_reducible refine idO ?_); (with_reducible refine oM_gen fun Kv hK=>?_); simp [go_sem, hk.cells, build_tkt0, hp2]; refine hK _ _ ?_; clear hK; clear Kv)))
      exact store_tkt zT hk (fun W3 hk hc => ⟨_, by simp [go_sem, hc], k2 _ hk.below⟩)
    | true =>
    rw [if_neg (by decide)] at k2
    have k2 := fun w' => k2 w' _ rfl
    repeat (any_goals (first
    | (with_reducible first|refine pureM_in ?_|((refine idGd ?_); refine zC ?_)|((refine idPick ?_); refine yC ?_)|((refine idCond ?_); refine yM ?_))
    | ((with_reducible refine idO ?_); (with_reducible refine oM_gen fun Kv hK=>?_); simp [go_sem, hk.cells, hp2]; refine hK _ _ ?_; clear hK; clear Kv)))
    refine drawn_ok s o b ho (hs.next hk.below) (hl.next hk.below) (hb'.next hk.below) (fun w4 h4 => ?_)
    have hk := hk.next h4
    clear h4
    generalize askTkt s l o b = t at *
    have hglt := mine_lt hk.mine
    have hcl := cells_lt hk.cells
    have hk0 := hk.below
    refine local_tktH t fun gq w5 hh h5 hgq => ?_
    have hk := hk.next h5
    have hgg : gq ≠ g := by omega
    have hoq := fun p hp => Nat.ne_of_lt (Nat.lt_of_lt_of_le (hcl p hp) hgq)
    have hbq : w.heap.size ≤ gq := by have := hk0.size; omega
    have hk := hk.drew
    have hh := hh.next (.drawn (B := w5.heap.size))
    refine ⟨Nx { w5 with drawn := w5.drawn + 1 }, Below.refl _ _, rfl, ?_⟩
    generalize ({ w5 with drawn := w5.drawn + 1 } : World) = W at hk hh ⊢
    repeat (any_goals (first
    | (with_reducible refine pureH_in ?_)
    | ((with_reducible refine idOH ?_); (with_reducible refine oH_of ⟨_, rfl⟩ (fun W0 hW0 => by (refine oM_gen (fun Kv hK => ?_)); simp [go_sem, (hk.next hW0).cells]; (first | exact hK _ _ ⟨rfl, rfl⟩ | exact ⟨by omega, hK _ _ ⟨rfl, rfl⟩⟩)) ?_))))
    refine ⟨Nx, ?_⟩
    apply monoE
    · intro w1 h1
      exact qmul_ok s r b.u (hs.next (hk.next h1).below) (fun w2 h2 => ⟨h1.on h2, h2, rfl⟩)
    rintro w1 h1 _ rfl
    have hk := hk.next h1
    have hh := hh.next h1
    refine rAdd_ok _ _ _ ?_
    repeat (any_goals ((with_reducible refine idO ?_); (with_reducible refine oM_gen fun Kv hK=>?_); simp [go_sem]; refine hK _ _ ?_; clear hK; clear Kv))
    refine arr_set (i := 5) sz_int rfl rfl hh (show 5 < 6 by decide) (fun w10 hg10 hh => ?_)
    have hk := hk.wroteOther hg10 hoq hgg.symm hbq
    have hh : Holds w10 gq 43 (tktC { t with r := plusQ s (mulQ s r [b.u]) b.v }) := hh
    repeat (any_goals ((with_reducible refine idO ?_); (with_reducible refine oM_gen fun Kv hK=>?_); simp [go_sem, hh.are]; refine hK _ _ ?_; clear hK; clear Kv))
    exact store_tkt { t with r := plusQ s (mulQ s r [b.u]) b.v } hk (fun W3 hk hc => ⟨_, by simp [go_sem, hc], k2 _ hk.below⟩)
  · rw [if_neg he]
    rw [if_pos he] at k2
    have k2 := fun w' => k2 w' _ rfl
    repeat (any_goals (first
    | (with_reducible ((refine idCond ?_); refine yL ?_))
    | ((with_reducible refine idO ?_); (with_reducible refine oM_gen fun Kv hK=>?_); simp [go_sem, hk.cells, he, build_tkt0]; refine hK _ _ ?_; clear hK; clear Kv)))
    exact store_tkt zT hk (fun W3 hk hc => ⟨_, by simp [go_sem, hc], k2 _ hk.below⟩)
end
end Go.Proofs
namespace Go.Proofs
open Go Go.Sh Go.RowKit FdSpec TkSpec CodeSpec
set_option linter.unusedSimpArgs false
set_option linter.unusedVariables false
set_option maxRecDepth 10000
section
variable {K : Value → World → Prop} {w w0 w1 : World} {L : List (Addr × Value)}
end
end Go.Proofs
set_option linter.unusedVariables false
set_option maxRecDepth 100000
namespace Go.Proofs
open Go.Sh
def sh_4 (a0 : Value) (a1 : Value) (a2 : Value) (a3 : Value) (a4 : Value) (a5 : Value) (a6 : Value) (a7 : Value) (K : Value → World → Prop) (w : World) : Prop :=
 oM Tryz.prog (.box 35 (.tmp 0)) 0 [a0] (fun v8_1 w =>
 oM Tryz.prog (.box 39 (.tmp 0)) 0 [a6] (fun v14_2 w =>
 oM Tryz.prog (.box 28 (.tmp 0)) 0 [a7] (fun v15_3 w =>
 callM Tryz.prog 22 #[] (fun v32_4 w =>
 oM Tryz.prog (.load 35 (.tmp 0)) 35 [v8_1] (fun v33_5 w =>
 oM Tryz.prog (.fieldAddr 28 (.tmp 0) 3) 0 [v15_3] (fun v35_6 w =>
 oM Tryz.prog (.load 22 (.tmp 0)) 22 [v35_6] (fun v36_7 w =>
 oM Tryz.prog (.buildSlice 63 2 #[(0, (.tmp 0)), (1, (.tmp 1))]) 63 [a5, v36_7] (fun v37_8 w =>
 callM Tryz.prog 23 #[v33_5, v37_8] (fun v38_9 w =>
 oM Tryz.prog (.unOp .not 4 (.tmp 0)) 4 [v38_9] (fun v39_10 w =>
 condM v39_10
 (K v32_4 w)
 (oM Tryz.prog (.load 35 (.tmp 0)) 35 [v8_1] (fun v42_11 w =>
 callM Tryz.prog 14 #[v42_11, a2, a5, a3] (fun v46_12 w =>
 oM Tryz.prog (.extract (.tmp 0) 0) 39 [v46_12] (fun v47_13 w =>
 oM Tryz.prog (.extract (.tmp 0) 1) 50 [v46_12] (fun v48_14 w =>
 oM Tryz.prog (.alloc 39) 0 [] (fun v18_15 w =>
 oM Tryz.prog (.store 39 (.tmp 0) (.tmp 1)) 0 [v18_15, v47_13] (fun _ w =>
 oM Tryz.prog (.load 35 (.tmp 0)) 35 [v8_1] (fun v50_16 w =>
 callM Tryz.prog 24 #[v50_16, a2, a5, a3] (fun v54_17 w =>
 oM Tryz.prog (.extract (.tmp 0) 0) 39 [v54_17] (fun v55_18 w =>
 oM Tryz.prog (.extract (.tmp 0) 1) 50 [v54_17] (fun v56_19 w =>
 oM Tryz.prog (.alloc 39) 0 [] (fun v20_20 w =>
 oM Tryz.prog (.store 39 (.tmp 0) (.tmp 1)) 0 [v20_20, v55_18] (fun _ w =>
 oM Tryz.prog (.load 35 (.tmp 0)) 35 [v8_1] (fun v58_21 w =>
 oM Tryz.prog (.load 39 (.tmp 0)) 39 [v14_2] (fun v61_22 w =>
 oM Tryz.prog (.load 28 (.tmp 0)) 28 [v15_3] (fun v62_23 w =>
 callM Tryz.prog 18 #[v58_21, a1, a5, v61_22, v62_23] (fun v63_24 w =>
 oM Tryz.prog (.extract (.tmp 0) 0) 3 [v63_24] (fun v64_25 w =>
 oM Tryz.prog (.extract (.tmp 0) 1) 50 [v63_24] (fun v65_26 w =>
 oM Tryz.prog (.load 35 (.tmp 0)) 35 [v8_1] (fun v67_27 w =>
 oM Tryz.prog (.load 39 (.tmp 0)) 39 [v14_2] (fun v70_28 w =>
 oM Tryz.prog (.load 28 (.tmp 0)) 28 [v15_3] (fun v71_29 w =>
 callM Tryz.prog 25 #[v67_27, a1, a5, v70_28, v71_29] (fun v72_30 w =>
 oM Tryz.prog (.extract (.tmp 0) 0) 3 [v72_30] (fun v73_31 w =>
 oM Tryz.prog (.extract (.tmp 0) 1) 50 [v72_30] (fun v74_32 w =>
 oM Tryz.prog (.load 35 (.tmp 0)) 35 [v8_1] (fun v76_33 w =>
 oM Tryz.prog (.load 39 (.tmp 0)) 39 [v14_2] (fun v79_34 w =>
 oM Tryz.prog (.load 28 (.tmp 0)) 28 [v15_3] (fun v80_35 w =>
 callM Tryz.prog 20 #[v76_33, a1, a5, v79_34, v80_35, a4] (fun v82_36 w =>
 oM Tryz.prog (.extract (.tmp 0) 0) 43 [v82_36] (fun v83_37 w =>
 oM Tryz.prog (.extract (.tmp 0) 1) 50 [v82_36] (fun v84_38 w =>
 oM Tryz.prog (.alloc 43) 0 [] (fun v26_39 w =>
 oM Tryz.prog (.store 43 (.tmp 0) (.tmp 1)) 0 [v26_39, v83_37] (fun _ w =>
 oM Tryz.prog (.load 35 (.tmp 0)) 35 [v8_1] (fun v86_40 w =>
 oM Tryz.prog (.load 39 (.tmp 0)) 39 [v14_2] (fun v89_41 w =>
 oM Tryz.prog (.load 28 (.tmp 0)) 28 [v15_3] (fun v90_42 w =>
 callM Tryz.prog 26 #[v86_40, a1, a5, v89_41, v90_42, a4] (fun v92_43 w =>
 oM Tryz.prog (.extract (.tmp 0) 0) 43 [v92_43] (fun v93_44 w =>
 oM Tryz.prog (.extract (.tmp 0) 1) 50 [v92_43] (fun v94_45 w =>
 oM Tryz.prog (.alloc 43) 0 [] (fun v28_46 w =>
 oM Tryz.prog (.store 43 (.tmp 0) (.tmp 1)) 0 [v28_46, v93_44] (fun _ w =>
 heldM w (fun C_47 w => (((true : Bool) = true) ∧ (oH Tryz.prog (.load 35 (.tmp 0)) 35 [v8_1] C_47 (fun v95_48 =>
 pureH a5 C_47 (fun v96_49 =>
 oH Tryz.prog (.load 35 (.tmp 0)) 35 [v8_1] C_47 (fun v98_50 =>
 pureH a5 C_47 (fun v99_51 =>
 ∃ S_52 : World → World → Prop, ∃ R_53 : Value → World → Prop, (∀ v w w_1, S_52 w w_1 → R_53 v w → R_53 v w_1) ∧
 (∀ w, C_47 w → (callM Tryz.prog 27 #[v95_48, v96_49] (fun v w_1 => C_47 w_1 ∧ S_52 w w_1 ∧ R_53 v w_1) w)) ∧
 (∃ R_54 : Value → World → Prop, (∀ v w w_1, S_52 w w_1 → R_54 v w → R_54 v w_1) ∧
 (∀ w, C_47 w → (callM Tryz.prog 28 #[v98_50, v99_51] (fun v w_1 => C_47 w_1 ∧ S_52 w w_1 ∧ R_54 v w_1) w)) ∧
 (∃ R_55 : Value → World → Prop, (∀ v w w_1, S_52 w w_1 → R_55 v w → R_55 v w_1) ∧
 (∀ w, C_47 w → ∀ v97_56, R_53 v97_56 w → ∀ v100_57, R_54 v100_57 w → (oM Tryz.prog (.binOp .eql 3 (.tmp 0) (.tmp 1) 3) 4 [v97_56, v100_57] (fun v w_1 => C_47 w_1 ∧ S_52 w w_1 ∧ R_55 v w_1) w)) ∧
 (∃ R_58 : Value → World → Prop, (∀ v w w_1, S_52 w w_1 → R_58 v w → R_58 v w_1) ∧
 (∀ w, C_47 w → ∀ v101_59, R_55 v101_59 w → (C_47 w ∧ S_52 w w ∧ R_58 v101_59 w)) ∧
 (∃ R_60 : Value → World → Prop, (∀ v w w_1, S_52 w w_1 → R_60 v w → R_60 v w_1) ∧
 (∀ w, C_47 w → ∀ v102_61, R_58 v102_61 w → (gdM (gd v102_61 true) (oM Tryz.prog (.load 35 (.tmp 0)) 35 [v8_1]) (fun v w_1 => C_47 w_1 ∧ S_52 w w_1 ∧ R_60 v w_1) w)) ∧
 (∃ R_62 : Value → World → Prop, (∀ v w w_1, S_52 w w_1 → R_62 v w → R_62 v w_1) ∧
 (∀ w, C_47 w → ∀ v102_63, R_58 v102_63 w → (gdM (gd v102_63 true) (pureM a5) (fun v w_1 => C_47 w_1 ∧ S_52 w w_1 ∧ R_62 v w_1) w)) ∧
 (∃ R_64 : Value → World → Prop, (∀ v w w_1, S_52 w w_1 → R_64 v w → R_64 v w_1) ∧
 (∀ w, C_47 w → ∀ v102_65, R_58 v102_65 w → ∀ v103_66, R_60 v103_66 w → ∀ v104_67, R_62 v104_67 w → (gdM (gd v102_65 true) (callM Tryz.prog 29 #[v103_66, v104_67]) (fun v w_1 => C_47 w_1 ∧ S_52 w w_1 ∧ R_64 v w_1) w)) ∧
 (∃ R_68 : Value → World → Prop, (∀ v w w_1, S_52 w w_1 → R_68 v w → R_68 v w_1) ∧
 (∀ w, C_47 w → ∀ v102_69, R_58 v102_69 w → (gdM (gd v102_69 true) (oM Tryz.prog (.load 35 (.tmp 0)) 35 [v8_1]) (fun v w_1 => C_47 w_1 ∧ S_52 w w_1 ∧ R_68 v w_1) w)) ∧
 (∃ R_70 : Value → World → Prop, (∀ v w w_1, S_52 w w_1 → R_70 v w → R_70 v w_1) ∧
 (∀ w, C_47 w → ∀ v102_71, R_58 v102_71 w → (gdM (gd v102_71 true) (pureM a5) (fun v w_1 => C_47 w_1 ∧ S_52 w w_1 ∧ R_70 v w_1) w)) ∧
 (∃ R_72 : Value → World → Prop, (∀ v w w_1, S_52 w w_1 → R_72 v w → R_72 v w_1) ∧
 (∀ w, C_47 w → ∀ v102_73, R_58 v102_73 w → ∀ v106_74, R_68 v106_74 w → ∀ v107_75, R_70 v107_75 w → (gdM (gd v102_73 true) (callM Tryz.prog 30 #[v106_74, v107_75]) (fun v w_1 => C_47 w_1 ∧ S_52 w w_1 ∧ R_72 v w_1) w)) ∧
 (∃ R_76 : Value → World → Prop, (∀ v w w_1, S_52 w w_1 → R_76 v w → R_76 v w_1) ∧
 (∀ w, C_47 w → ∀ v102_77, R_58 v102_77 w → ∀ v105_78, R_64 v105_78 w → ∀ v108_79, R_72 v108_79 w → (gdM (gd v102_77 true) (oM Tryz.prog (.binOp .eql 4 (.tmp 0) (.tmp 1) 4) 4 [v105_78, v108_79]) (fun v w_1 => C_47 w_1 ∧ S_52 w w_1 ∧ R_76 v w_1) w)) ∧
 (∃ R_80 : Value → World → Prop, (∀ v w w_1, S_52 w w_1 → R_80 v w → R_80 v w_1) ∧
 (∀ w, C_47 w → ∀ v102_81, R_58 v102_81 w → ∀ v109_82, R_76 v109_82 w → (oM Tryz.prog (.pick (.tmp 0) (.tmp 1) (.tmp 2)) 4 [v102_81, v109_82, (.bool false)] (fun v w_1 => C_47 w_1 ∧ S_52 w w_1 ∧ R_80 v w_1) w)) ∧
 (∃ R_83 : Value → World → Prop, (∀ v w w_1, S_52 w w_1 → R_83 v w → R_83 v w_1) ∧
 (∀ w, C_47 w → ∀ v110_84, R_80 v110_84 w → (C_47 w ∧ S_52 w w ∧ R_83 v110_84 w)) ∧
 (∃ R_85 : Value → World → Prop, (∀ v w w_1, S_52 w w_1 → R_85 v w → R_85 v w_1) ∧
 (∀ w, C_47 w → ∀ v111_86, R_83 v111_86 w → (gdM (gd v111_86 true) (oM Tryz.prog (.load 35 (.tmp 0)) 35 [v8_1]) (fun v w_1 => C_47 w_1 ∧ S_52 w w_1 ∧ R_85 v w_1) w)) ∧
 (∃ R_87 : Value → World → Prop, (∀ v w w_1, S_52 w w_1 → R_87 v w → R_87 v w_1) ∧
 (∀ w, C_47 w → ∀ v111_88, R_83 v111_88 w → (gdM (gd v111_88 true) (pureM a2) (fun v w_1 => C_47 w_1 ∧ S_52 w w_1 ∧ R_87 v w_1) w)) ∧
 (∃ R_89 : Value → World → Prop, (∀ v w w_1, S_52 w w_1 → R_89 v w → R_89 v w_1) ∧
 (∀ w, C_47 w → ∀ v111_90, R_83 v111_90 w → ∀ v112_91, R_85 v112_91 w → ∀ v113_92, R_87 v113_92 w → (gdM (gd v111_90 true) (callM Tryz.prog 19 #[v112_91, v113_92]) (fun v w_1 => C_47 w_1 ∧ S_52 w w_1 ∧ R_89 v w_1) w)) ∧
 (∃ R_93 : Value → World → Prop, (∀ v w w_1, S_52 w w_1 → R_93 v w → R_93 v w_1) ∧
 (∀ w, C_47 w → ∀ v111_94, R_83 v111_94 w → (gdM (gd v111_94 true) (oM Tryz.prog (.load 35 (.tmp 0)) 35 [v8_1]) (fun v w_1 => C_47 w_1 ∧ S_52 w w_1 ∧ R_93 v w_1) w)) ∧
 (∃ R_95 : Value → World → Prop, (∀ v w w_1, S_52 w w_1 → R_95 v w → R_95 v w_1) ∧
 (∀ w, C_47 w → ∀ v111_96, R_83 v111_96 w → (gdM (gd v111_96 true) (pureM a2) (fun v w_1 => C_47 w_1 ∧ S_52 w w_1 ∧ R_95 v w_1) w)) ∧
 (∀ w, C_47 w → ∀ v97_97, R_53 v97_97 w → ∀ v100_98, R_54 v100_98 w → ∀ v101_99, R_55 v101_99 w → ∀ v102_100, R_58 v102_100 w → ∀ v103_101, R_60 v103_101 w → ∀ v104_102, R_62 v104_102 w → ∀ v105_103, R_64 v105_103 w → ∀ v106_104, R_68 v106_104 w → ∀ v107_105, R_70 v107_105 w → ∀ v108_106, R_72 v108_106 w → ∀ v109_107, R_76 v109_107 w → ∀ v110_108, R_80 v110_108 w → ∀ v111_109, R_83 v111_109 w → ∀ v112_110, R_85 v112_110 w → ∀ v113_111, R_87 v113_111 w → ∀ v114_112, R_89 v114_112 w → ∀ v115_113, R_93 v115_113 w → ∀ v116_114, R_95 v116_114 w → (
 gdM (gd v111_109 true) (callM Tryz.prog 31 #[v115_113, v116_114]) (fun v117_115 w =>
 gdM (gd v111_109 true) (oM Tryz.prog (.binOp .eql 3 (.tmp 0) (.tmp 1) 3) 4 [v114_112, v117_115]) (fun v118_116 w =>
 oM Tryz.prog (.pick (.tmp 0) (.tmp 1) (.tmp 2)) 4 [v111_109, v118_116, (.bool false)] (fun v119_117 w =>
 oM Tryz.prog (.load 39 (.tmp 0)) 39 [v18_15] (fun v120_118 w =>
 oM Tryz.prog (.load 39 (.tmp 0)) 39 [v20_20] (fun v121_119 w =>
 oM Tryz.prog (.binOp .eql 39 (.tmp 0) (.tmp 1) 39) 4 [v120_118, v121_119] (fun v122_120 w =>
 gdM (gd v122_120 true) (pureM v48_14) (fun v124_121 w =>
 gdM (gd v122_120 true) (pureM v56_19) (fun v125_122 w =>
 gdM (gd v122_120 true) (oM Tryz.prog (.binOp .eql 50 (.tmp 0) (.tmp 1) 50) 4 [v124_121, v125_122]) (fun v126_123 w =>
 oM Tryz.prog (.pick (.tmp 0) (.tmp 1) (.tmp 2)) 4 [v122_120, v126_123, (.bool false)] (fun v127_124 w =>
 gdM (gd v127_124 true) (pureM v64_25) (fun v129_125 w =>
 gdM (gd v127_124 true) (pureM v73_31) (fun v130_126 w =>
 gdM (gd v127_124 true) (oM Tryz.prog (.binOp .eql 3 (.tmp 0) (.tmp 1) 3) 4 [v129_125, v130_126]) (fun v131_127 w =>
 oM Tryz.prog (.pick (.tmp 0) (.tmp 1) (.tmp 2)) 4 [v127_124, v131_127, (.bool false)] (fun v132_128 w =>
 gdM (gd v132_128 true) (pureM v65_26) (fun v134_129 w =>
 gdM (gd v132_128 true) (pureM v74_32) (fun v135_130 w =>
 gdM (gd v132_128 true) (oM Tryz.prog (.binOp .eql 50 (.tmp 0) (.tmp 1) 50) 4 [v134_129, v135_130]) (fun v136_131 w =>
 oM Tryz.prog (.pick (.tmp 0) (.tmp 1) (.tmp 2)) 4 [v132_128, v136_131, (.bool false)] (fun v137_132 w =>
 gdM (gd v137_132 true) (oM Tryz.prog (.load 43 (.tmp 0)) 43 [v26_39]) (fun v139_133 w =>
 gdM (gd v137_132 true) (oM Tryz.prog (.load 43 (.tmp 0)) 43 [v28_46]) (fun v140_134 w =>
 gdM (gd v137_132 true) (oM Tryz.prog (.binOp .eql 43 (.tmp 0) (.tmp 1) 43) 4 [v139_133, v140_134]) (fun v141_135 w =>
 oM Tryz.prog (.pick (.tmp 0) (.tmp 1) (.tmp 2)) 4 [v137_132, v141_135, (.bool false)] (fun v142_136 w =>
 gdM (gd v142_136 true) (pureM v84_38) (fun v144_137 w =>
 gdM (gd v142_136 true) (pureM v94_45) (fun v145_138 w =>
 gdM (gd v142_136 true) (oM Tryz.prog (.binOp .eql 50 (.tmp 0) (.tmp 1) 50) 4 [v144_137, v145_138]) (fun v146_139 w =>
 oM Tryz.prog (.pick (.tmp 0) (.tmp 1) (.tmp 2)) 4 [v142_136, v146_139, (.bool false)] (fun v147_140 w =>
 heldM w (fun C_141 w => (((true : Bool) = true) ∧ (pureH v32_4 C_141 (fun v148_142 =>
 pureH v148_142 C_141 (fun v149_143 =>
 gdH (gd v149_143 true) (pureH v119_117) C_141 (fun v150_144 =>
 oH Tryz.prog (.pick (.tmp 0) (.tmp 1) (.tmp 2)) 4 [v149_143, v150_144, (.bool false)] C_141 (fun v151_145 =>
 pureH v151_145 C_141 (fun v152_146 =>
 gdH (gd v152_146 true) (pureH v147_140) C_141 (fun v153_147 =>
 oH Tryz.prog (.pick (.tmp 0) (.tmp 1) (.tmp 2)) 4 [v152_146, v153_147, (.bool false)] C_141 (fun v154_148 =>
 pureH v154_148 C_141 (fun v155_149 =>
 gdH (gd v155_149 true) (oH Tryz.prog (.load 35 (.tmp 0)) 35 [v8_1]) C_141 (fun v156_150 =>
 gdH (gd v155_149 true) (pureH a2) C_141 (fun v157_151 =>
 gdH (gd v155_149 true) (pureH a3) C_141 (fun v158_152 =>
 gdH (gd v155_149 true) (pureH a4) C_141 (fun v159_153 =>
 gdH (gd v155_149 true) (oH Tryz.prog (.load 35 (.tmp 0)) 35 [v8_1]) C_141 (fun v161_154 =>
 gdH (gd v155_149 true) (pureH a2) C_141 (fun v162_155 =>
 gdH (gd v155_149 true) (pureH a3) C_141 (fun v163_156 =>
 gdH (gd v155_149 true) (pureH a4) C_141 (fun v164_157 =>
 ∃ S_158 : World → World → Prop, ∃ R_159 : Value → World → Prop, (∀ v w w_1, S_158 w w_1 → R_159 v w → R_159 v w_1) ∧
 (∀ w, C_141 w → (gdM (gd v155_149 true) (callM Tryz.prog 15 #[v156_150, v157_151, v158_152, v159_153]) (fun v w_1 => C_141 w_1 ∧ S_158 w w_1 ∧ R_159 v w_1) w)) ∧
 (∀ w, C_141 w → ∀ v160_160, R_159 v160_160 w → (
 gdM (gd v155_149 true) (callM Tryz.prog 32 #[v161_154, v162_155, v163_156, v164_157]) (fun v165_161 w =>
 gdM (gd v155_149 true) (oM Tryz.prog (.binOp .eql 3 (.tmp 0) (.tmp 1) 3) 4 [v160_160, v165_161]) (fun v166_162 w =>
 oM Tryz.prog (.pick (.tmp 0) (.tmp 1) (.tmp 2)) 4 [v155_149, v166_162, (.bool false)] (fun v167_163 w =>
 K v167_163 w) w) w) w)))))))))))))))))))))) w) w) w) w) w) w) w) w) w) w) w) w) w) w) w) w) w) w) w) w) w) w) w) w) w) w))))))))))))))))))))))))))) w) w) w) w) w) w) w) w) w) w) w) w) w) w) w) w) w) w) w) w) w) w) w) w) w) w) w) w) w) w) w) w) w) w) w) w) w) w) w) w)) w) w) w) w) w) w) w) w) w) w
theorem sh_4_eq (a0 : Value) (a1 : Value) (a2 : Value) (a3 : Value) (a4 : Value) (a5 : Value) (a6 : Value) (a7 : Value) (K : Value → World → Prop) (w : World) : sh_4 a0 a1 a2 a3 a4 a5 a6 a7 K w = code Tryz.prog (fun i => bif Nat.beq i 10 then .free [0, 1, 3, 4] [2, 5, 6, 7, 8, 9, 10, 11, 12, 13, 14, 15, 16, 17, 18, 19, 20, 21] [22, 23, 24, 25] else bif Nat.beq i 12 then .free [0, 1, 2, 3, 4, 5, 6, 7, 8, 9, 10, 11, 13, 14, 15, 16] [12] [17, 18, 19, 20] else 0) 168 (Tryz.f4.body.getD .skip) (slotsAt [a0, a1, a2, a3, a4, a5, a6, a7]) (retK Tryz.prog [.tmp 16] K) w := by kernel_rfl
theorem sh_4_ok {a0 a1 a2 a3 a4 a5 a6 a7 : Value} {K : Value → World → Prop} {w : World} (h : sh_4 a0 a1 a2 a3 a4 a5 a6 a7 K w) : callM Tryz.prog 4 #[a0, a1, a2, a3, a4, a5, a6, a7] K w :=
  calls_of_code (fun i => bif Nat.beq i 10 then .free [0, 1, 3, 4] [2, 5, 6, 7, 8, 9, 10, 11, 12, 13, 14, 15, 16, 17, 18, 19, 20, 21] [22, 23, 24, 25] else bif Nat.beq i 12 then .free [0, 1, 2, 3, 4, 5, 6, 7, 8, 9, 10, 11, 13, 14, 15, 16] [12] [17, 18, 19, 20] else 0) (fn := Tryz.f4) (rs := [.tmp 16]) Tryz.func4 rfl rfl (by kernel_rfl) (Nat.le_of_ble_eq_true rfl) ((sh_4_eq a0 a1 a2 a3 a4 a5 a6 a7 K w).mp h)
end Go.Proofs
namespace Go.Proofs
open Go Go.Sh Go.RowKit FdSpec TkSpec CodeSpec
set_option linter.unusedSimpArgs false
set_option linter.unusedVariables false
set_option maxRecDepth 10000
section
variable {K : Value → World → Prop} {w w0 : World} {L : List (Addr × Value)}
def fewM (s : Stp) (ns : List Nat) : Bool := ns.all (fun n => decide (n ≤ 9)) && decide (s.bases.length ≤ 9)
def FwJ (w : World) (L : List (Addr × Value)) (R : Bool) (ns : List Nat) : List Value → World → Prop := fun l w' => Kn w L w' ∧ ∃ u i, l = [u, .int .i64 (i : Nat)] ∧ i ≤ ns.length ∧ (ns.drop i).all (fun n => decide (n ≤ 9)) = R
def fwMu (n : Nat) : List Value → World → Nat := fun l _ => match l with | [_, .int _ i] => n - i.toNat | _ => 0
theorem fwMu_eq (n : Nat) (u : Value) (k : IntKind) (i : Int) (w : World) : fwMu n [u, .int k i] w = n - i.toNat := rfl
@[go_sem] theorem idx_ll (T : TypeId) (b o n c : Nat) (x : Int) : oM Tryz.prog (.indexAddr 63 (.tmp 0) (.tmp 1)) T [.slice (some ⟨b, o, none⟩) n c, .int .i64 x] = onM (0 ≤ x ∧ x < n) (.pointer (some ⟨b, o + x.toNat, none⟩)) := by
  funext K w
  rw [oM_indexAddr, run_indexAt_slice (h := by kernel_rfl)]
  have hs : (sizeOf (Tryz.prog.elem 63)).run Tryz.prog w = .ok 1 w := by kernel_rfl
  by_cases hi : 0 ≤ x ∧ x < n
  · rw [if_pos hi, hs]
    simp only [Result.andThen, add_none, Nat.mul_one, rM_ok]
    exact propext ⟨fun h => ⟨hi, h⟩, fun h => h.2⟩
  · rw [if_neg hi]
    obtain ⟨e', w', he⟩ := halts Value Tryz.prog .i64 x n .index w
    rw [he]
    exact propext ⟨fun h => h.elim, fun h => hi h.1⟩
theorem Few_ok (s : Stp) (g c : Nat) (ns : List Nat) {v : Value} (hs : SetR w s v) (hg : g < w.heap.size) (hc : ∀ i (h : i < ns.length), ∃ ad c, w.cell? ⟨g, i, none⟩ = some (.slice ad ns[i] c)) (hn : ns.length < 1000) (k : ∀ w', Below w.heap.size w w' → K (.bool (fewM s ns)) w') : callM Tryz.prog 23 #[stpV s v, .slice (some ⟨g, 0, none⟩) ns.length c] K w := by
  apply sh_23_ok
  unfold sh_23
  obtain ⟨ad, cc, rfl⟩ := hs.ints.isSlice
  refine box_kn (cs := stpC s (.slice ad s.bases.length cc)) rfl (.start w) fun b W hk hb1 hb => ?_
  unfold fewM at k
  skip
  refine ⟨FwJ w _ (ns.all (fun n => decide (n ≤ 9))) ns, fwMu ns.length, ⟨hk, _, 0, rfl, by omega, rfl⟩, ?_⟩
  generalize ns.all (fun n => decide (n ≤ 9)) = R at *
  rintro _ _ w1 ⟨hk, u, i, rfl, hi, ha⟩
  by_cases hin : i = ns.length
  · rw [List.drop_of_length_le (by omega)] at ha
    have el : decide ((s.bases.length : Int) ≤ 9) = decide (s.bases.length ≤ 9) := decide_eq_decide.2 (by omega)
    repeat (any_goals (first
    | (with_reducible ((refine idCond ?_); refine yO ?_))
    | ((with_reducible refine idO ?_); (with_reducible refine oM_gen fun Kv hK=>?_); simp [go_sem, hk.cells]; refine hK _ _ ?_; clear hK; clear Kv)))
    rw [el]
    rw [show R = true from ha.symm, Bool.true_and] at k
    exact k _ hk.below
  · rw [List.drop_eq_getElem_cons (by omega), List.all_cons] at ha
    obtain ⟨ad2, c2, hcc⟩ := hc i (by omega)
    have hcell : w1.cell? ⟨g, i, none⟩ = some (.slice ad2 ns[i] c2) := by rw [hk.below.cell hg]; exact hcc
    generalize ns[i] = x at *
    by_cases hx : x ≤ 9
    · rw [decide_eq_true hx, Bool.true_and] at ha
      have hx' : (x : Int) ≤ 9 := by omega
      repeat (any_goals (first
      | (with_reducible ((refine idCond ?_); first|refine yN ?_|refine yO ?_))
      | ((with_reducible refine idO ?_); (with_reducible refine oM_gen fun Kv hK=>?_); simp [go_sem, hcell, hx']; (try simp (disch := omega) only [wrapI64, wrapU8, wrapU32, wrapU64]); (first|refine hK _ _ ?_|refine And.intro (by omega) (hK _ _ ?_)); clear hK; clear Kv)))
      refine ⟨⟨hk, _, i + 1, rfl, by omega, ha⟩, ?_⟩
      simp only [fwMu_eq]; omega
    · rw [decide_eq_false hx, Bool.false_and] at ha
      subst ha
      have hx' : ¬ (x : Int) ≤ 9 := by omega
      repeat (any_goals (first
      | (with_reducible ((refine idCond ?_); refine yN ?_))
      | ((with_reducible refine idO ?_); (with_reducible refine oM_gen fun Kv hK=>?_); simp [go_sem, hcell, hx']; (first|refine hK _ _ ?_|refine And.intro (by omega) (hK _ _ ?_)); clear hK; clear Kv)))
      exact k _ hk.below
end
end Go.Proofs
namespace Go.Proofs
open Go Go.Sh Go.RowKit FdSpec TkSpec CodeSpec
set_option linter.unusedSimpArgs false
set_option linter.unusedVariables false
set_option maxRecDepth 10000
section
variable {K : Value → World → Prop} {w w0 : World} {L : List (Addr × Value)}
theorem mkLL2 {T : TypeId} (a1 a2 : Option Addr) (n1 n2 c1 c2 : Nat) (k : ∀ g W, Below w.heap.size w W → g < W.heap.size → W.cell? ⟨g, 0, none⟩ = some (.slice a1 n1 c1) → W.cell? ⟨g, 1, none⟩ = some (.slice a2 n2 c2) → K (.slice (some ⟨g, 0, none⟩) 2 2) W) : oM Tryz.prog (.buildSlice 63 2 #[(0, .tmp 0), (1, .tmp 1)]) T [.slice a1 n1 c1, .slice a2 n2 c2] K w := by
  rw [oM_buildSlice2]
  have e : (Instr.buildSlice 63 2 #[(0, .slice a1 n1 c1), (1, .slice a2 n2 c2)]).run Tryz.prog w = .ok (.slice (some ⟨w.heap.size, 0, none⟩) 2 2) (w.alloc (.cells #[.slice a1 n1 c1, .slice a2 n2 c2] 22)) := by kernel_rfl
  rw [e]
  refine k _ _ ((Below.refl _ w).alloc (Nat.le_refl _) _) (by simp) ?_ ?_
  · exact (World.cell?_alloc_at _ _ _ _ rfl).trans rfl
  · exact (World.cell?_alloc_at _ _ _ _ rfl).trans rfl
theorem tells_ok (s : Stp) (key x y c : Int) (o : Off) (b : Bld) {v lv bv : Value} {l : List Int} (hkey : I64 key) (hx : I64 x) (hy : I64 y) (hc : I64 c) (ho : OffR o) (hs : SetR w s v) (hl : Ints w lv l) (hb : BldR w b bv) (hT : DbT w) (hL : Cd.Laid w)
    (k : ∀ w', Below w.heap.size w w' → K (.bool true) w') :
    callM Tryz.prog 4 #[stpV s v, .int .i64 key, .int .i64 x, .int .i64 y, .int .i64 c, lv, offV o, bldV b bv] K w := by
  apply sh_4_ok
  unfold sh_4
  obtain ⟨ad, cc, rfl⟩ := hs.ints.isSlice
  obtain ⟨lad, lc, rfl⟩ := hl.isSlice
  have hb' := hb
  obtain ⟨yad, yc, rfl⟩ := hb.ys.isSlice
  refine box_kn (cs := stpC s (.slice ad s.bases.length cc)) rfl (.start w) fun b1 W1 hk hb1 hbb => ?_
  refine box_kn (cs := offC o) rfl hk fun b2 W2 hk hb2 hbb => ?_
  refine box_kn (cs := bldC b (.slice yad b.ys.length yc)) rfl hk fun b3 W3 hk hb3 hbb => ?_
  clear hb1 hb2 hb3 hbb
  refine sane_ok (hT.next hk.below) (hL.below hk.below hL.size) (fun w1 h => ?_)
  have hk := hk.next h
  clear h
  iterate 3 (any_goals ((with_reducible refine idO ?_); (with_reducible refine oM_gen fun Kv hK=>?_); simp [go_sem, hk.cells]; refine hK _ _ ?_; clear hK; clear Kv))
  refine mkLL2 lad yad l.length b.ys.length lc yc fun gl w2 h2 hgl hc0 hc1 => ?_
  have hk := hk.next h2
  clear h2
  skip
  refine Few_ok s gl 2 [l.length, b.ys.length] (hs.next hk.below) hgl (fun i hi => ?_) (by simp) (fun w3 h3 => ?_)
  · match i, hi with
    | 0, _ => exact ⟨_, _, hc0⟩
    | 1, _ => exact ⟨_, _, hc1⟩
  have hk := hk.next h3
  clear h3
  cases hf : fewM s [l.length, b.ys.length] with
  | false =>
    repeat (any_goals (first
    | (with_reducible ((refine idCond ?_); refine yL ?_))
    | ((with_reducible refine idO ?_); (with_reducible refine oM_gen fun Kv hK=>?_); simp [go_sem]; refine hK _ _ ?_; clear hK; clear Kv)))
    exact k _ hk.below
  | true =>
  clear hc0 hc1 hgl
  repeat (any_goals (first
  | (with_reducible ((refine idCond ?_); refine yM ?_))
  | ((with_reducible refine idO ?_); (with_reducible refine oM_gen fun Kv hK=>?_); simp [go_sem, hk.cells]; refine hK _ _ ?_; clear hK; clear Kv)))
  refine Propose_ok s x y hx hy (hs.next hk.below) (hl.next hk.below) (fun w4 h4 => ?_)
  have hk := hk.next h4
  clear h4
  iterate 2 (any_goals ((with_reducible refine idO ?_); (with_reducible refine oM_gen fun Kv hK=>?_); simp [go_sem]; refine hK _ _ ?_; clear hK; clear Kv))
  refine local_off _ hk (fun g1 W4 hk hb4 hg1 => ?_)
  repeat (any_goals ((with_reducible refine idO ?_); (with_reducible refine oM_gen fun Kv hK=>?_); simp [go_sem, hk.cells]; refine hK _ _ ?_; clear hK; clear Kv))
  refine qPropose_ok s x y (hs.next hk.below) (hl.next hk.below) (fun w4 h4 => ?_)
  have hk := hk.next h4
  clear h4
  iterate 2 (any_goals ((with_reducible refine idO ?_); (with_reducible refine oM_gen fun Kv hK=>?_); simp [go_sem]; refine hK _ _ ?_; clear hK; clear Kv))
  refine local_off _ hk (fun g2 W5 hk hb5 hg2 => ?_)
  repeat (any_goals ((with_reducible refine idO ?_); (with_reducible refine oM_gen fun Kv hK=>?_); simp [go_sem, hk.cells]; refine hK _ _ ?_; clear hK; clear Kv))
  refine Ask_ok s key o b hkey ho (hs.next hk.below) (hl.next hk.below) (hb'.next hk.below) (hL.below hk.below hL.size) (fun w4 h4 => ?_)
  have hk := hk.next h4
  clear h4
  repeat (any_goals ((with_reducible refine idO ?_); (with_reducible refine oM_gen fun Kv hK=>?_); simp [go_sem, hk.cells]; refine hK _ _ ?_; clear hK; clear Kv))
  refine qAsk_ok s key o b ho (hs.next hk.below) (hl.next hk.below) (hb'.next hk.below) (fun w4 h4 => ?_)
  have hk := hk.next h4
  clear h4
  repeat (any_goals ((with_reducible refine idO ?_); (with_reducible refine oM_gen fun Kv hK=>?_); simp [go_sem, hk.cells]; refine hK _ _ ?_; clear hK; clear Kv))
  refine Finish_ok s key c o b hkey hc ho (hs.next hk.below) (hl.next hk.below) (hb'.next hk.below) (hL.below hk.below hL.size) (fun w4 h4 => ?_)
  have hk := hk.next h4
  clear h4
  iterate 2 (any_goals ((with_reducible refine idO ?_); (with_reducible refine oM_gen fun Kv hK=>?_); simp [go_sem]; refine hK _ _ ?_; clear hK; clear Kv))
  refine local_tkt _ hk (fun g3 W6 hk hb6 hg3 => ?_)
  repeat (any_goals ((with_reducible refine idO ?_); (with_reducible refine oM_gen fun Kv hK=>?_); simp [go_sem, hk.cells]; refine hK _ _ ?_; clear hK; clear Kv))
  refine qFinish_ok s key c o b ho (hs.next hk.below) (hl.next hk.below) (hb'.next hk.below) (fun w4 h4 => ?_)
  have hk := hk.next h4
  clear h4
  iterate 2 (any_goals ((with_reducible refine idO ?_); (with_reducible refine oM_gen fun Kv hK=>?_); simp [go_sem]; refine hK _ _ ?_; clear hK; clear Kv))
  refine local_tkt _ hk (fun g4 W7 hk hb7 hg4 => ?_)
  generalize hpo : (proposeM s x l y).1 = po at hk ⊢
  generalize hpe : (proposeM s x l y).2 = pe at hk ⊢
  generalize hft : (finishM s key l o b c).1 = ft at hk ⊢
  generalize hfe : (finishM s key l o b c).2 = fe at hk ⊢
  generalize (askM s key l o b).1 = a1 at hk ⊢
  generalize (askM s key l o b).2 = a2 at hk ⊢
  clear hb4 hb5 hb6 hb7 hpo hpe hft hfe
  have e1 := fun T => eql_tkt T ft ft
  have e2 := fun T => eql_off T po po
  simp only [decide_true] at e1 e2
  have hk := hk.drew
  refine ⟨Nx { W7 with drawn := W7.drawn + 1 }, Below.refl _ _, rfl, ?_⟩
  generalize ({ W7 with drawn := W7.drawn + 1 } : World) = W at hk ⊢
  repeat (any_goals (first
  | (with_reducible refine pureH_in ?_)
  | ((with_reducible refine idOH ?_); (with_reducible refine oH_of ⟨_, rfl⟩ (fun W0 hW0 => by (refine oM_gen (fun Kv hK => ?_)); simp [go_sem, (hk.next hW0).cells]; (first | exact hK _ _ ⟨rfl, rfl⟩ | exact ⟨by omega, hK _ _ ⟨rfl, rfl⟩⟩)) ?_))))
  refine ⟨Nx, ?_⟩
  apply monoE
  · intro w1 h1
    exact Mark_ok s (hs.next (hk.next h1).below) (hl.next (hk.next h1).below) (fun w2 h2 => ⟨h1.on h2, h2, rfl⟩)
  apply monoE
  · intro w1 h1
    exact qMark_ok s (hs.next (hk.next h1).below) (hl.next (hk.next h1).below) (fun w2 h2 => ⟨h1.on h2, h2, rfl⟩)
  repeat (apply monoE; focus (intro w9 h9; (repeat (intro v9 e9; try (obtain rfl := e9))); (repeat (any_goals (first
    | (with_reducible first|refine pureM_in ?_|((refine idGd ?_); refine zA ?_))
    | ((with_reducible refine idO ?_); (with_reducible refine oM_gen fun Kv hK=>?_); simp [go_sem, (hk.next h9).cells]; refine hK _ _ ?_; clear hK; clear Kv)))); exact ⟨h9, Below.refl _ _, rfl⟩))
  apply monoE
  · rintro w1 h1 _ rfl _ rfl _ rfl
    repeat (any_goals (with_reducible ((refine idGd ?_); refine zA ?_)))
    exact Usable_ok s (hs.next (hk.next h1).below) (hl.next (hk.next h1).below) (fun w2 h2 => ⟨h1.on h2, h2, rfl⟩)
  repeat (apply monoE; focus (intro w9 h9; (repeat (intro v9 e9; try (obtain rfl := e9))); (repeat (any_goals (first
    | (with_reducible first|refine pureM_in ?_|((refine idGd ?_); refine zA ?_))
    | ((with_reducible refine idO ?_); (with_reducible refine oM_gen fun Kv hK=>?_); simp [go_sem, (hk.next h9).cells]; refine hK _ _ ?_; clear hK; clear Kv)))); exact ⟨h9, Below.refl _ _, rfl⟩))
  apply monoE
  · rintro w1 h1 _ rfl _ rfl _ rfl
    repeat (any_goals (with_reducible ((refine idGd ?_); refine zA ?_)))
    exact qUsable_ok s (hs.next (hk.next h1).below) (hl.next (hk.next h1).below) (fun w2 h2 => ⟨h1.on h2, h2, rfl⟩)
  repeat (apply monoE; focus (intro w9 h9; (repeat (intro v9 e9; try (obtain rfl := e9))); (repeat (any_goals (first
    | (with_reducible first|refine pureM_in ?_|((refine idGd ?_); refine zA ?_)|((refine idPick ?_); refine yB ?_))
    | ((with_reducible refine idO ?_); (with_reducible refine oM_gen fun Kv hK=>?_); simp [go_sem, (hk.next h9).cells]; refine hK _ _ ?_; clear hK; clear Kv)))); exact ⟨h9, Below.refl _ _, rfl⟩))
  apply monoE
  · rintro w1 h1 _ rfl _ rfl _ rfl
    repeat (any_goals (with_reducible ((refine idGd ?_); refine zA ?_)))
    exact Public_ok s x hx (hs.next (hk.next h1).below) (fun w2 h2 => ⟨h1.on h2, h2, rfl⟩)
  repeat (apply monoE; focus (intro w9 h9; (repeat (intro v9 e9; try (obtain rfl := e9))); (repeat (any_goals (first
    | (with_reducible first|refine pureM_in ?_|((refine idGd ?_); refine zA ?_))
    | ((with_reducible refine idO ?_); (with_reducible refine oM_gen fun Kv hK=>?_); simp [go_sem, (hk.next h9).cells]; refine hK _ _ ?_; clear hK; clear Kv)))); exact ⟨h9, Below.refl _ _, rfl⟩))
  (intro w9 h9; repeat (intro v9 e9; try (obtain rfl := e9)))
  have hk := hk.next h9
  clear h9
  repeat (any_goals (with_reducible ((refine idGd ?_); refine zA ?_)))
  refine qPublic_ok s x (hs.next hk.below) (fun w1 h1 => ?_)
  have hk := hk.next h1
  clear h1
  repeat (any_goals (first
  | (with_reducible first|refine pureM_in ?_|((refine idGd ?_); refine zA ?_)|((refine idPick ?_); refine yB ?_))
  | ((with_reducible refine idO ?_); (with_reducible refine oM_gen fun Kv hK=>?_); simp [go_sem, hk.cells, e1, e2]; refine hK _ _ ?_; clear hK; clear Kv)))
  have hk := hk.drew
  refine ⟨Nx { w1 with drawn := w1.drawn + 1 }, Below.refl _ _, rfl, ?_⟩
  generalize ({ w1 with drawn := w1.drawn + 1 } : World) = W at hk ⊢
  repeat (any_goals (first
  | (with_reducible first|refine pureH_in ?_|((refine idGdH ?_); refine gdH_conv fun _=>?_)|((refine idGd ?_); refine zA ?_))
  | ((with_reducible refine idOH ?_); first|(with_reducible refine vA ?_)|(with_reducible refine oH_of ⟨_, rfl⟩ (fun W0 hW0 => by (refine oM_gen (fun Kv hK => ?_)); simp [go_sem, (hk.next hW0).cells]; (first | exact hK _ _ ⟨rfl, rfl⟩ | exact ⟨by omega, hK _ _ ⟨rfl, rfl⟩⟩)) ?_))))
  refine ⟨Nx, ?_⟩
  apply monoE
  · intro w1 h1
    repeat (any_goals (with_reducible ((refine idGd ?_); refine zA ?_)))
    exact Grant_ok s x y c hx hy hc (hs.next (hk.next h1).below) (fun w2 h2 => ⟨h1.on h2, h2, rfl⟩)
  (intro w9 h9; repeat (intro v9 e9; try (obtain rfl := e9)))
  have hk := hk.next h9
  clear h9
  repeat (any_goals (with_reducible ((refine idGd ?_); refine zA ?_)))
  refine qGrant_ok s x y c (hs.next hk.below) (fun w1 h1 => ?_)
  have hk := hk.next h1
  clear h1
  repeat (any_goals (first
  | (with_reducible first|((refine idGd ?_); refine zA ?_)|((refine idPick ?_); refine yB ?_))
  | ((with_reducible refine idO ?_); (with_reducible refine oM_gen fun Kv hK=>?_); simp [go_sem]; refine hK _ _ ?_; clear hK; clear Kv)))
  exact k _ hk.below
end
end Go.Proofs
