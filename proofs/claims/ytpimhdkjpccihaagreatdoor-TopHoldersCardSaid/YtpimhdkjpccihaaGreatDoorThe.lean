/- Parts of the proof of the seat's statements (ClA, ClB, ClC, ClD, ClE, ClF, ClG, ClH): lemmas about the given translation and plain laws. No condition of their own. -/
import Derived.Test.YtpimhdkjpccihaaGreatDoorThd
set_option linter.all false
namespace Go.Proofs
open Go Go.Sh Go.RowKit FdSpec TkSpec CodeSpec
set_option linter.unusedSimpArgs false
set_option linter.unusedVariables false
set_option maxRecDepth 10000
structure SRow {α : Type} (n : Nat) (At : World → Nat → Nat → α → Prop) (w : World) (v : Value) (l : List α) : Prop where
  row : ∃ ad c, v = .slice ad l.length c ∧ (l = [] ∨ ∃ b o, ad = some ⟨b, o, none⟩ ∧ b < w.heap.size ∧ ∀ (i : Nat) (h : i < l.length), At w b (o + i * n) l[i])
  len : l.length ≤ 9223372036854775807
def Stay {α : Type} (At : World → Nat → Nat → α → Prop) : Prop := ∀ (w w' : World) (b p : Nat) (x : α), At w b p x → b < w.heap.size → Below w.heap.size w w' → At w' b p x
section
variable {α : Type} {n : Nat} {At : World → Nat → Nat → α → Prop} {w w' : World} {v : Value} {l : List α}
theorem SRow.next (h : SRow n At w v l) (hs : Stay At) (hb : Below w.heap.size w w') : SRow n At w' v l := by
  obtain ⟨⟨ad, c, rfl, h1⟩, h2⟩ := h
  refine ⟨⟨ad, c, rfl, h1.imp id ?_⟩, h2⟩
  rintro ⟨b, o, rfl, hlt, hc⟩
  exact ⟨b, o, rfl, Nat.lt_of_lt_of_le hlt hb.size, fun i hi => hs _ _ _ _ _ (hc i hi) hlt hb⟩
theorem SRow.isSlice (h : SRow n At w v l) : ∃ ad c, v = .slice ad l.length c := by
  obtain ⟨⟨ad, c, rfl, _⟩, _⟩ := h; exact ⟨ad, c, rfl⟩
theorem SRow.at {ad : Option Addr} {m c : Nat} (h : SRow n At w (.slice ad m c) l) {i : Nat} (hi : i < l.length) : ∃ b o, ad = some ⟨b, o, none⟩ ∧ b < w.heap.size ∧ At w b (o + i * n) l[i] := by
  obtain ⟨⟨ad', c', hv, h1⟩, _⟩ := h
  cases hv
  rcases h1 with rfl | ⟨b, o, rfl, hlt, hc⟩
  · simp at hi
  · exact ⟨b, o, rfl, hlt, hc i hi⟩
end
theorem idx_row {P : Program} {K : Value → World → Prop} {n : Nat} (t T : TypeId) (hu : P.underlying t = some (.slice (P.elem t))) (hs : ∀ w, (sizeOf (P.elem t)).run P w = .ok n w) (b o m c : Nat) (x : Int) :
    oM P (.indexAddr t (.tmp 0) (.tmp 1)) T [.slice (some ⟨b, o, none⟩) m c, .int .i64 x] = onM (0 ≤ x ∧ x < m) (.pointer (some ⟨b, o + x.toNat * n, none⟩)) := by
  funext K w
  rw [oM_indexAddr, run_indexAt_slice (h := hu)]
  by_cases hi : 0 ≤ x ∧ x < m
  · rw [if_pos hi, hs]
    simp only [Result.andThen, add_none, rM_ok]
    exact propext ⟨fun h => ⟨hi, h⟩, fun h => h.2⟩
  · rw [if_neg hi]
    obtain ⟨e', w', he⟩ := halts Value P .i64 x m .index w
    rw [he]
    exact propext ⟨fun h => h.elim, fun h => hi h.1⟩
structure Trm where
  var : Int
  base : Int
deriving DecidableEq
structure Eqn where
  target : Int
  terms : List Trm
deriving DecidableEq
structure Clm where
  vars : Int
  eqs : List Eqn
deriving DecidableEq
def exponentM (s : Stp) (n : Int) : Bool := decide (0 ≤ n) && decide (n < s.g.Q)
def exponentsM (s : Stp) (l : List Int) (n : Int) : Bool := decide ((l.length : Int) = n) && !(l.any fun x => !exponentM s x)
def trmFine (s : Stp) (vars : Int) (t : Trm) : Bool := decide (0 ≤ t.var) && decide (t.var < vars) && elemG s.g t.base
def eqnFine (s : Stp) (vars : Int) (e : Eqn) : Bool := elemG s.g e.target && decide (e.terms.length ≤ 80) && e.terms.all (trmFine s vars)
def claimM (s : Stp) (c : Clm) : Bool := decide (0 ≤ c.vars) && decide (c.vars ≤ 120) && decide (1 ≤ c.eqs.length) && decide (c.eqs.length ≤ 60) && c.eqs.all (eqnFine s c.vars)
def leftM (s : Stp) (e : Eqn) (vs : List Int) : Int := (prodG s.g (e.terms.map fun t => t.base) (e.terms.map fun t => vs.getD t.var.toNat 0)).1
def holdsM (s : Stp) (c : Clm) (vs : List Int) : Bool := exponentsM s vs c.vars && !(c.eqs.any fun e => !decide (leftM s e vs = e.target))
def HoldsM (s : Stp) (c : Clm) (vs : List Int) : Bool := validS s && claimM s c && holdsM s c vs
@[reducible] def trmC (t : Trm) : List Value := [.int .i64 t.var, .int .i64 t.base]
@[reducible] def trmV (t : Trm) : Value := .agg #[.int .i64 t.var, .int .i64 t.base]
@[reducible] def eqnC (e : Eqn) (v : Value) : List Value := [.int .i64 e.target, v]
@[reducible] def eqnV (e : Eqn) (v : Value) : Value := .agg #[.int .i64 e.target, v]
@[reducible] def clmC (c : Clm) (v : Value) : List Value := [.int .i64 c.vars, v]
@[reducible] def clmV (c : Clm) (v : Value) : Value := .agg #[.int .i64 c.vars, v]
def TrmAt (w : World) (b p : Nat) (t : Trm) : Prop := w.cell? ⟨b, p, none⟩ = some (.int .i64 t.var) ∧ w.cell? ⟨b, p + 1, none⟩ = some (.int .i64 t.base) ∧ I64 t.var ∧ I64 t.base
theorem trm_stay : Stay TrmAt := fun w w' b p x h hlt hb => by
  have e : ∀ k, w'.cell? ⟨b, k, none⟩ = w.cell? ⟨b, k, none⟩ := fun k => by rw [hb.cell hlt]
  unfold TrmAt at h ⊢
  simp only [e]
  exact h
def EqnAt (w : World) (b p : Nat) (e : Eqn) : Prop := ∃ v, w.cell? ⟨b, p, none⟩ = some (.int .i64 e.target) ∧ w.cell? ⟨b, p + 1, none⟩ = some v ∧ SRow 2 TrmAt w v e.terms ∧ I64 e.target
theorem eqn_stay : Stay EqnAt := fun w w' b p x h hlt hb => by
  have e : ∀ k, w'.cell? ⟨b, k, none⟩ = w.cell? ⟨b, k, none⟩ := fun k => by rw [hb.cell hlt]
  obtain ⟨v, h1, h2, h3, h4⟩ := h
  exact ⟨v, by rw [e]; exact h1, by rw [e]; exact h2, h3.next trm_stay hb, h4⟩
structure ClmR (w : World) (c : Clm) (v : Value) : Prop where
  vars : I64 c.vars
  eqs : SRow 2 EqnAt w v c.eqs
theorem ClmR.next {w w' : World} {c : Clm} {v : Value} (h : ClmR w c v) (hb : Below w.heap.size w w') : ClmR w' c v := ⟨h.vars, h.eqs.next eqn_stay hb⟩
@[go_sem] theorem idx_trm (T : TypeId) (b o n c : Nat) (x : Int) : oM Tryz.prog (.indexAddr 165 (.tmp 0) (.tmp 1)) T [.slice (some ⟨b, o, none⟩) n c, .int .i64 x] = onM (0 ≤ x ∧ x < n) (.pointer (some ⟨b, o + x.toNat * 2, none⟩)) :=
  idx_row (K := fun _ _ => True) _ T (by kernel_rfl) (fun w => by kernel_rfl) b o n c x
@[go_sem] theorem idx_eqn (T : TypeId) (b o n c : Nat) (x : Int) : oM Tryz.prog (.indexAddr 101 (.tmp 0) (.tmp 1)) T [.slice (some ⟨b, o, none⟩) n c, .int .i64 x] = onM (0 ≤ x ∧ x < n) (.pointer (some ⟨b, o + x.toNat * 2, none⟩)) :=
  idx_row (K := fun _ _ => True) _ T (by kernel_rfl) (fun w => by kernel_rfl) b o n c x
theorem sz_trm (w : World) : (sizeOf 164).run Tryz.prog w = .ok 2 w := by kernel_rfl
theorem al_trm (w : World) : (Instr.alloc 164 true (.tuple #[])).run Tryz.prog w = .ok (.pointer (some ⟨w.heap.size, 0, none⟩)) (w.alloc (.cells [.int .i64 0, .int .i64 0].toArray 164)) := by kernel_rfl
theorem trm_one (t : Trm) : ∀ u ∈ trmC t, u.oneCell' = true := by
  intro u hu
  simp only [trmC, List.mem_cons, List.not_mem_nil, or_false] at hu
  rcases hu with rfl | rfl <;> rfl
theorem sz_eqn (w : World) : (sizeOf 167).run Tryz.prog w = .ok 2 w := by kernel_rfl
theorem al_eqn (w : World) : (Instr.alloc 167 true (.tuple #[])).run Tryz.prog w = .ok (.pointer (some ⟨w.heap.size, 0, none⟩)) (w.alloc (.cells [.int .i64 0, .slice none 0 0].toArray 167)) := by kernel_rfl
theorem eqn_one (e : Eqn) (ad : Option Addr) (n c : Nat) : ∀ u ∈ eqnC e (.slice ad n c), u.oneCell' = true := by
  intro u hu
  simp only [eqnC, List.mem_cons, List.not_mem_nil, or_false] at hu
  rcases hu with rfl | rfl <;> rfl
section
variable {K : Value → World → Prop} {w w0 : World} {L : List (Addr × Value)}
theorem local_trm {K : Value → World → Prop} {T' T2 : TypeId} (t : Trm) (hk : Kn w0 L w)
    (k : ∀ b W, Kn w0 (cellsOf L b 0 (trmC t)) W → Below w.heap.size w W → w.heap.size ≤ b → K (.pointer (some ⟨b, 0, none⟩)) W) :
    oM Tryz.prog (.alloc 164) T' [] (fun v w => oM Tryz.prog (.store 164 (.tmp 0) (.tmp 1)) T2 [v, trmV t] (fun _ w => K v w) w) w :=
  local_kn al_trm rfl sz_trm rfl rfl (trm_one t) hk k
theorem local_eqn {K : Value → World → Prop} {T' T2 : TypeId} (e : Eqn) (ad : Option Addr) (m c : Nat) (hk : Kn w0 L w)
    (k : ∀ b W, Kn w0 (cellsOf L b 0 (eqnC e (.slice ad m c))) W → Below w.heap.size w W → w.heap.size ≤ b → K (.pointer (some ⟨b, 0, none⟩)) W) :
    oM Tryz.prog (.alloc 167) T' [] (fun v w => oM Tryz.prog (.store 167 (.tmp 0) (.tmp 1)) T2 [v, eqnV e (.slice ad m c)] (fun _ w => K v w) w) w :=
  local_kn al_eqn rfl sz_eqn rfl rfl (eqn_one e ad m c) hk k
def AlJ {α : Type} (w0 : World) (L : List (Addr × Value)) (p : α → Bool) (l : List α) (R : Bool) (vs : List Value) (w' : World) : Prop := Kn w0 L w' ∧ ∃ (u : Value) (i : Nat), vs = [u, .int .i64 (i : Int)] ∧ i ≤ l.length ∧ (l.drop i).all p = R
abbrev AlJk {α : Type} {w0 w' : World} {L : List (Addr × Value)} (_ : Kn w0 L w') (p : α → Bool) (l : List α) (R : Bool) : List Value → World → Prop := AlJ w0 L p l R
theorem exponent_ok (s : Stp) (n : Int) {v : Value} (hs : SetR w s v) (k : ∀ w', Below w.heap.size w w' → K (.bool (exponentM s n)) w') : callM Tryz.prog 202 #[stpV s v, .int .i64 n] K w := by
  apply sh_202_ok
  unfold sh_202
  obtain ⟨ad, c, rfl⟩ := hs.ints.isSlice
  refine box_kn (cs := stpC s (.slice ad s.bases.length c)) rfl (.start w) fun b1 W hk hb1 hbb => ?_
  unfold exponentM at k
  by_cases h : 0 ≤ n
  · rw [decide_eq_true h, Bool.true_and] at k
    repeat (any_goals (first
    | (with_reducible first|refine pureM_in ?_|((refine idGd ?_); refine zA ?_)|((refine idPick ?_); refine yB ?_))
    | ((with_reducible refine idO ?_); (with_reducible refine oM_gen fun Kv hK=>?_); simp [go_sem, hk.cells, h]; refine hK _ _ ?_; clear hK; clear Kv)))
    exact k _ hk.below
  · rw [decide_eq_false h, Bool.false_and] at k
    repeat (any_goals (first
    | (with_reducible first|((refine idGd ?_); refine zB ?_)|((refine idPick ?_); refine yC ?_))
    | ((with_reducible refine idO ?_); (with_reducible refine oM_gen fun Kv hK=>?_); simp [go_sem, hk.cells, h]; refine hK _ _ ?_; clear hK; clear Kv)))
    exact k _ hk.below
theorem exponents_ok (s : Stp) (n : Int) {v lv : Value} {l : List Int} (hs : SetR w s v) (hl : Ints w lv l) (k : ∀ w', Below w.heap.size w w' → K (.bool (exponentsM s l n)) w') : callM Tryz.prog 177 #[stpV s v, lv, .int .i64 n] K w := by
  apply sh_177_ok
  unfold sh_177
  have hs' := hs
  obtain ⟨ad, c, rfl⟩ := hs.ints.isSlice
  have hl' := hl
  obtain ⟨lad, lc, rfl⟩ := hl.isSlice
  refine box_kn (cs := stpC s (.slice ad s.bases.length c)) rfl (.start w) fun b1 W hk hb1 hbb => ?_
  unfold exponentsM at k
  by_cases h : (l.length : Int) = n
  · rw [decide_eq_true h, Bool.true_and] at k
    repeat (any_goals (first
    | (with_reducible first|refine pureM_in ?_|((refine idGd ?_); refine zA ?_))
    | ((with_reducible refine idO ?_); (with_reducible refine oM_gen fun Kv hK=>?_); simp [go_sem, hk.cells, h]; refine hK _ _ ?_; clear hK; clear Kv)))
    refine ContainsFunc_ok (fun x => !exponentM s x) (hl'.next hk.below) ?_ ?_
    · intro w' x K' T hb hx h'
      refine oM_callv1 (by kernel_rfl) ?_
      have hk := hk.next hb
      apply sh_201_ok
      unfold sh_201
      repeat (any_goals ((with_reducible refine idO ?_); (with_reducible refine oM_gen fun Kv hK=>?_); simp [go_sem, hk.cells]; refine hK _ _ ?_; clear hK; clear Kv))
      refine exponent_ok s x (hs'.next hk.below) (fun w2 h2 => ?_)
      repeat (any_goals ((with_reducible refine idO ?_); (with_reducible refine oM_gen fun Kv hK=>?_); simp [go_sem]; refine hK _ _ ?_; clear hK; clear Kv))
      exact h' _ h2
    · intro w3 h3
      have hk := hk.next h3
      generalize (l.any fun x => !exponentM s x) = q at *
      repeat (any_goals (first
      | (with_reducible first|((refine idGd ?_); refine zA ?_)|((refine idPick ?_); refine yB ?_))
      | ((with_reducible refine idO ?_); (with_reducible refine oM_gen fun Kv hK=>?_); simp [go_sem]; refine hK _ _ ?_; clear hK; clear Kv)))
      exact k _ hk.below
  · rw [decide_eq_false h, Bool.false_and] at k
    repeat (any_goals (first
    | (with_reducible first|((refine idGd ?_); refine zB ?_)|((refine idPick ?_); refine yC ?_))
    | ((with_reducible refine idO ?_); (with_reducible refine oM_gen fun Kv hK=>?_); simp [go_sem, hk.cells, h]; refine hK _ _ ?_; clear hK; clear Kv)))
    exact k _ hk.below
theorem validClaim_ok (s : Stp) (c : Clm) {v cv : Value} (hs : SetR w s v) (hc : ClmR w c cv) (k : ∀ w', Below w.heap.size w w' → K (.bool (claimM s c)) w') : callM Tryz.prog 136 #[stpV s v, clmV c cv] K w := by
  apply sh_136_ok
  unfold sh_136
  have hs' := hs
  have hc' := hc
  obtain ⟨ad, ca, rfl⟩ := hs.ints.isSlice
  obtain ⟨ead, ec, rfl⟩ := hc.eqs.isSlice
  refine box_kn (cs := stpC s (.slice ad s.bases.length ca)) rfl (.start w) fun b1 W1 hk hb1 hbb => ?_
  refine box_kn (cs := clmC c (.slice ead c.eqs.length ec)) rfl hk fun b2 W2 hk hb2 hbb => ?_
  clear hb1 hb2 hbb
  have eC : claimM s c = (decide (0 ≤ c.vars) && decide (c.vars ≤ 120) && decide (1 ≤ c.eqs.length) && decide (c.eqs.length ≤ 60) && c.eqs.all (eqnFine s c.vars)) := rfl
  by_cases h1 : c.vars < 0
  · rw [decide_eq_false (by omega), Bool.false_and, Bool.false_and, Bool.false_and, Bool.false_and] at eC
    rw [eC] at k
    repeat (any_goals (first
    | (with_reducible first|((refine idGd ?_); refine zD ?_)|((refine idPick ?_); refine yB ?_)|((refine idCond ?_); refine yL ?_))
    | ((with_reducible refine idO ?_); (with_reducible refine oM_gen fun Kv hK=>?_); simp [go_sem, hk.cells, h1]; refine hK _ _ ?_; clear hK; clear Kv)))
    exact k _ hk.below
  by_cases h2 : 120 < c.vars
  · rw [decide_eq_false (by omega : ¬ c.vars ≤ 120), Bool.and_false, Bool.false_and, Bool.false_and, Bool.false_and] at eC
    rw [eC] at k
    repeat (any_goals (first
    | (with_reducible first|((refine idGd ?_); first|refine zC ?_|refine zD ?_)|((refine idPick ?_); first|refine yB ?_|refine yC ?_)|((refine idCond ?_); refine yL ?_))
    | ((with_reducible refine idO ?_); (with_reducible refine oM_gen fun Kv hK=>?_); simp [go_sem, hk.cells, h1, h2]; refine hK _ _ ?_; clear hK; clear Kv)))
    exact k _ hk.below
  by_cases h3 : (c.eqs.length : Int) < 1
  · rw [decide_eq_false (by omega : ¬ 1 ≤ c.eqs.length), Bool.and_false, Bool.false_and, Bool.false_and] at eC
    rw [eC] at k
    repeat (any_goals (first
    | (with_reducible first|((refine idGd ?_); first|refine zC ?_|refine zD ?_)|((refine idPick ?_); first|refine yB ?_|refine yC ?_)|((refine idCond ?_); refine yL ?_))
    | ((with_reducible refine idO ?_); (with_reducible refine oM_gen fun Kv hK=>?_); simp [go_sem, hk.cells, h1, h2, h3]; refine hK _ _ ?_; clear hK; clear Kv)))
    exact k _ hk.below
  by_cases h4 : (60 : Int) < c.eqs.length
  · rw [decide_eq_false (by omega : ¬ c.eqs.length ≤ 60), Bool.and_false, Bool.false_and] at eC
    rw [eC] at k
    repeat (any_goals (first
    | (with_reducible first|((refine idGd ?_); refine zC ?_)|((refine idPick ?_); refine yC ?_)|((refine idCond ?_); refine yL ?_))
    | ((with_reducible refine idO ?_); (with_reducible refine oM_gen fun Kv hK=>?_); simp [go_sem, hk.cells, h1, h2, h3, h4]; refine hK _ _ ?_; clear hK; clear Kv)))
    exact k _ hk.below
  rw [decide_eq_true (by omega), decide_eq_true (by omega : c.vars ≤ 120), decide_eq_true (by omega : 1 ≤ c.eqs.length), decide_eq_true (by omega : c.eqs.length ≤ 60)] at eC
  simp only [Bool.true_and] at eC
  rw [eC] at k
  clear eC
  repeat (any_goals (first
  | (with_reducible first|((refine idGd ?_); refine zC ?_)|((refine idPick ?_); refine yC ?_)|((refine idCond ?_); refine yM ?_))
  | ((with_reducible refine idO ?_); (with_reducible refine oM_gen fun Kv hK=>?_); simp [go_sem, hk.cells, h1, h2, h3, h4]; refine hK _ _ ?_; clear hK; clear Kv)))
  refine ⟨AlJk hk (eqnFine s c.vars) c.eqs (c.eqs.all (eqnFine s c.vars)), grMu c.eqs.length, ⟨hk, _, 0, rfl, by omega, by rw [List.drop_zero]⟩, ?_⟩
  generalize c.eqs.all (eqnFine s c.vars) = R at *
  rintro _ _ w3 ⟨hk, u, i, rfl, hi, ha⟩
  by_cases hin : i = c.eqs.length
  · rw [List.drop_of_length_le (by omega), List.all_nil] at ha
    repeat (any_goals (first
    | (with_reducible ((refine idCond ?_); refine yO ?_))
    | ((with_reducible refine idO ?_); (with_reducible refine oM_gen fun Kv hK=>?_); simp [go_sem]; refine hK _ _ ?_; clear hK; clear Kv)))
    rw [ha]
    exact k _ hk.below
  rw [List.drop_eq_getElem_cons (by omega), List.all_cons] at ha
  obtain ⟨b3, o3, rfl, hb3, tv, c0, c1, htr, hti⟩ := (hc'.eqs.next eqn_stay hk.below).at (i := i) (by omega)
  generalize c.eqs[i] = e at *
  obtain ⟨tad, tc, rfl⟩ := htr.isSlice
  repeat (any_goals (first
  | ((with_reducible refine local_eqn e tad e.terms.length tc hk ?_); intro g13 W13 hk hb13 hg13)
  | (with_reducible ((refine idCond ?_); refine yN ?_))
  | ((with_reducible refine idO ?_); (with_reducible refine oM_gen fun Kv hK=>?_); simp [go_sem, c0, c1]; (first|refine hK _ _ ?_|refine And.intro (by omega) (hK _ _ ?_)); clear hK; clear Kv)))
  have htr := htr.next trm_stay hb13
  clear hb13 c0 c1
  repeat (any_goals ((with_reducible refine idO ?_); (with_reducible refine oM_gen fun Kv hK=>?_); simp [go_sem, hk.cells]; refine hK _ _ ?_; clear hK; clear Kv))
  refine Element_ok s.g e.target hs'.grp (hs'.db.next hk.below) (fun w4 h4 => ?_)
  have hk := hk.next h4
  have htr := htr.next trm_stay h4
  clear h4
  have eE : eqnFine s c.vars e = (elemG s.g e.target && decide (e.terms.length ≤ 80) && e.terms.all (trmFine s c.vars)) := rfl
  cases hel : elemG s.g e.target with
  | false =>
    rw [hel, Bool.false_and, Bool.false_and] at eE
    rw [eE, Bool.false_and] at ha
    repeat (any_goals (first
    | (with_reducible first|((refine idGd ?_); refine zD ?_)|((refine idPick ?_); refine yB ?_)|((refine idCond ?_); refine yL ?_))
    | ((with_reducible refine idO ?_); (with_reducible refine oM_gen fun Kv hK=>?_); simp [go_sem, hk.cells]; refine hK _ _ ?_; clear hK; clear Kv)))
    rw [ha]
    exact k _ hk.below
  | true =>
  rw [hel, Bool.true_and] at eE
  by_cases h8 : (80 : Int) < e.terms.length
  · rw [decide_eq_false (by omega : ¬ e.terms.length ≤ 80), Bool.false_and] at eE
    rw [eE, Bool.false_and] at ha
    repeat (any_goals (first
    | (with_reducible first|((refine idGd ?_); refine zC ?_)|((refine idPick ?_); refine yC ?_)|((refine idCond ?_); refine yL ?_))
    | ((with_reducible refine idO ?_); (with_reducible refine oM_gen fun Kv hK=>?_); simp [go_sem, hk.cells, h8]; refine hK _ _ ?_; clear hK; clear Kv)))
    rw [ha]
    exact k _ hk.below
  rw [decide_eq_true (by omega : e.terms.length ≤ 80), Bool.true_and] at eE
  rw [eE] at ha
  clear eE
  have htl := htr.len
  repeat (any_goals (first
  | (with_reducible first|((refine idGd ?_); refine zC ?_)|((refine idPick ?_); refine yC ?_)|((refine idCond ?_); refine yM ?_))
  | ((with_reducible refine idO ?_); (with_reducible refine oM_gen fun Kv hK=>?_); simp [go_sem, hk.cells, h8]; refine hK _ _ ?_; clear hK; clear Kv)))
  have hkk := hk
  have htw : Kn w4 _ w4 := ⟨Below.refl _ _, hk.cells⟩
  refine ⟨AlJk htw (trmFine s c.vars) e.terms (e.terms.all (trmFine s c.vars)), grMu e.terms.length, ⟨htw, _, 0, rfl, by omega, by rw [List.drop_zero]⟩, ?_⟩
  generalize e.terms.all (trmFine s c.vars) = R2 at *
  rintro _ _ w5 ⟨hk2, u2, j, rfl, hj, hb⟩
  have hk : Kn w _ w5 := ⟨hkk.below.on hk2.below, hk2.cells⟩
  by_cases hjn : j = e.terms.length
  · rw [List.drop_of_length_le (by omega), List.all_nil] at hb
    rw [← hb, Bool.true_and] at ha
    repeat (any_goals (first
    | (with_reducible ((refine idCond ?_); refine yO ?_))
    | ((with_reducible refine idO ?_); (with_reducible refine oM_gen fun Kv hK=>?_); simp [go_sem]; (try simp (disch := omega) only [wrapI64, wrapU8, wrapU32, wrapU64]); refine hK _ _ ?_; clear hK; clear Kv)))
    refine ⟨⟨⟨hk.below, hk.cells.2.2⟩, _, i + 1, rfl, by omega, ha⟩, ?_⟩
    simp only [grMu_eq]; omega
  rw [List.drop_eq_getElem_cons (by omega), List.all_cons] at hb
  obtain ⟨b4, o4, rfl, hb4, d0, d1, di0, di1⟩ := (htr.next trm_stay hk2.below).at (i := j) (by omega)
  generalize e.terms[j] = t at *
  repeat (any_goals (first
  | ((with_reducible refine local_trm t hk ?_); intro g14 W14 hk hb14 hg14)
  | (with_reducible ((refine idCond ?_); refine yN ?_))
  | ((with_reducible refine idO ?_); (with_reducible refine oM_gen fun Kv hK=>?_); simp [go_sem, d0, d1]; (first|refine hK _ _ ?_|refine And.intro (by omega) (hK _ _ ?_)); clear hK; clear Kv)))
  have eT : trmFine s c.vars t = (decide (0 ≤ t.var) && decide (t.var < c.vars) && elemG s.g t.base) := rfl
  have hno : trmFine s c.vars t = false → K (.bool false) = K (.bool R) := fun h => by
    rw [h, Bool.false_and] at hb
    rw [← hb, Bool.false_and] at ha
    rw [ha]
  by_cases g1 : t.var < 0
  · rw [decide_eq_false (by omega), Bool.false_and, Bool.false_and] at eT
    repeat (any_goals (first
    | (with_reducible first|((refine idGd ?_); refine zD ?_)|((refine idPick ?_); refine yB ?_)|((refine idCond ?_); refine yL ?_))
    | ((with_reducible refine idO ?_); (with_reducible refine oM_gen fun Kv hK=>?_); simp [go_sem, hk.cells, g1]; refine hK _ _ ?_; clear hK; clear Kv)))
    rw [hno eT]
    exact k _ hk.below
  rw [decide_eq_true (by omega), Bool.true_and] at eT
  by_cases g2 : c.vars ≤ t.var
  · rw [decide_eq_false (by omega), Bool.false_and] at eT
    repeat (any_goals (first
    | (with_reducible first|((refine idGd ?_); first|refine zC ?_|refine zD ?_)|((refine idPick ?_); first|refine yB ?_|refine yC ?_)|((refine idCond ?_); refine yL ?_))
    | ((with_reducible refine idO ?_); (with_reducible refine oM_gen fun Kv hK=>?_); simp [go_sem, hk.cells, g1, g2]; refine hK _ _ ?_; clear hK; clear Kv)))
    rw [hno eT]
    exact k _ hk.below
  rw [decide_eq_true (by omega), Bool.true_and] at eT
  repeat (any_goals (first
  | (with_reducible first|((refine idGd ?_); refine zC ?_)|((refine idPick ?_); refine yC ?_))
  | ((with_reducible refine idO ?_); (with_reducible refine oM_gen fun Kv hK=>?_); simp [go_sem, hk.cells, g1, g2]; refine hK _ _ ?_; clear hK; clear Kv)))
  refine Element_ok s.g t.base hs'.grp (hs'.db.next hk.below) (fun w6 h6 => ?_)
  have hk := hk.next h6
  cases hel2 : elemG s.g t.base with
  | false =>
    rw [hel2] at eT
    repeat (any_goals (first
    | (with_reducible first|((refine idGd ?_); refine zC ?_)|((refine idPick ?_); refine yC ?_)|((refine idCond ?_); refine yL ?_))
    | ((with_reducible refine idO ?_); (with_reducible refine oM_gen fun Kv hK=>?_); simp [go_sem, hk.cells]; refine hK _ _ ?_; clear hK; clear Kv)))
    rw [hno eT]
    exact k _ hk.below
  | true =>
  rw [hel2] at eT
  rw [eT, Bool.true_and] at hb
  repeat (any_goals (first
  | (with_reducible first|((refine idGd ?_); refine zC ?_)|((refine idPick ?_); refine yC ?_)|((refine idCond ?_); refine yM ?_))
  | ((with_reducible refine idO ?_); (with_reducible refine oM_gen fun Kv hK=>?_); simp [go_sem, hk.cells]; (try simp (disch := omega) only [wrapI64, wrapU8, wrapU32, wrapU64]); refine hK _ _ ?_; clear hK; clear Kv)))
  refine ⟨⟨⟨hk2.below.on (hb14.on h6), hk.cells.2.2⟩, _, j + 1, rfl, by omega, hb⟩, ?_⟩
  simp only [grMu_eq]; omega
end
end Go.Proofs
namespace Go.Proofs
open Go Go.Sh Go.RowKit FdSpec TkSpec CodeSpec
set_option linter.unusedSimpArgs false
set_option linter.unusedVariables false
set_option maxRecDepth 10000
section
variable {K : Value → World → Prop} {w w0 : World} {L : List (Addr × Value)}
theorem append1g {B : Nat} {T : TypeId} {v xv : Value} {l : List Int} {x : Int} (ho : OwnI w B v l) (hB : B ≤ w.heap.size) (hx : Ints w xv [x]) (hl : l.length < 1099511627776)
    (k : ∀ v' w', OwnI w' B v' (l ++ [x]) → w.grownBy w' v.ownBlock → (∀ i, v'.ownBlock = some i → v.ownBlock = some i ∨ w.heap.size ≤ i) → K v' w') : oM Tryz.prog (.call { callee := .builtin .append, args := #[.tmp 0, .tmp 1], argTypes := #[22, 22] }) T [v, xv] K w := by
  obtain ⟨⟨ad, c, rfl, h0, hc⟩, hr, _⟩ := hx
  have hc := hc.resolve_left (by simp)
  obtain ⟨b, o, rfl, hlt, hcell⟩ := hc
  refine append_at 22 T 3 ((Tryz.prog.info? 3).getD default) (.int .i64 0) 1 8 (by kernel_rfl) (by kernel_rfl) (by kernel_rfl) (by kernel_rfl) (by kernel_rfl) (by kernel_rfl) (by omega) (owns_base ho (Nat.zero_le _)) [.int .i64 x] (by simp) (by simp) ?_ ?_ (by simp only [maxLen, List.length_singleton]; omega) (by simp only [List.length_singleton]; omega) ?_
  · rintro a ha j u hj
    cases ha
    rw [add_none]
    exact hcell j u hj
  · intro u hu
    simp only [List.mem_singleton] at hu
    subst hu; rfl
  · intro v' w' ho' hg hv
    have hbl : ∀ i, v.ownBlock = some i → B ≤ i := fun i hi => (owns_own ho hi).2.1
    refine k v' w' ?_ hg hv
    have e1 : (l ++ [x]).length = l.length + [x].length := by simp
    have e2 : flat intC (l ++ [x]) = flat intC l ++ [Value.int .i64 x] := by rw [flat_int, flat_int]; simp
    show w'.ownsRow B 3 1 v' (l ++ [x]).length (flat intC (l ++ [x]))
    rw [e1, e2]
    exact owns_up ho' (fun i hi => (hv i hi).elim (hbl i) (fun h => Nat.le_trans hB h))
theorem cells_fr {S : Nat → Prop} {W : World} : ∀ {L : List (Addr × Value)}, cellsAre w L → Fr S w W → (∀ p ∈ L, p.1.block < w.heap.size ∧ ¬ S p.1.block) → cellsAre W L
  | [], _, _, _ => trivial
  | p :: L, hL, h, hn => by
    obtain ⟨h0, h1⟩ := hn p (by simp)
    exact ⟨(World.cell?_of_block (h.block _ h0 h1)).trans hL.1, cells_fr hL.2 h (fun q hq => hn q (by simp [hq]))⟩
theorem own_none {B : Nat} : OwnI w B (.slice none 0 0) [] := ⟨rfl, .inl ⟨rfl, rfl⟩⟩
def apart (u v : Value) : Prop := ∀ i, u.ownBlock = some i → v.ownBlock ≠ some i
theorem mk1g {T : TypeId} (x : Int) (hx : I64 x) (k : ∀ v W, Below w.heap.size w W → Ints W v [x] → Value.inBlock v = some w.heap.size → K v W) : oM Tryz.prog (.buildSlice 22 1 #[(0, .tmp 0)]) T [.int .i64 x] K w := by
  rw [oM_buildSlice1]
  have e : (Instr.buildSlice 22 1 #[(0, .int .i64 x)]).run Tryz.prog w = .ok (.slice (some ⟨w.heap.size, 0, none⟩) 1 1) (w.alloc (.cells #[.int .i64 x] 3)) := by kernel_rfl
  rw [e]
  exact k _ _ ((Below.refl _ w).alloc (Nat.le_refl _) _) (ints_alloc w [x] _ 1 (by simpa using hx) (by simp)) rfl
theorem ints_grown {w' : World} {v : Value} {l : List Int} {b : Option Nat} (h : Ints w v l) (hg : w.grownBy w' b) (hne : ∀ i, Value.inBlock v = some i → b ≠ some i) : Ints w' v l :=
  ⟨h.row.keep hg.size (fun i e hlt => hg.block i hlt (fun e2 => hne i e (by first | exact e2 | exact e2.symm))), h.rng, h.len⟩
structure Two (B : Nat) (W : World) (bv xv : Value) (w : World) (bv' xv' : Value) (bs es : List Int) : Prop where
  fr : Fr (fun i => bv.ownBlock = some i ∨ xv.ownBlock = some i) W w
  ob : OwnI w B bv' bs
  oe : OwnI w B xv' es
  ap : apart bv' xv'
  lb : ∀ i, bv'.ownBlock = some i → bv.ownBlock = some i ∨ W.heap.size ≤ i
  le : ∀ i, xv'.ownBlock = some i → xv.ownBlock = some i ∨ W.heap.size ≤ i
  B : B ≤ W.heap.size
theorem Fr.of_below {S : Nat → Prop} {w1 : World} (h : Below w.heap.size w w1) : Fr S w w1 := ⟨h.os, h.tape, h.output, h.size, fun i hi _ => h.block i hi⟩
theorem Two.start {B : Nat} {bv xv : Value} {bs es : List Int} (ob : OwnI w B bv bs) (oe : OwnI w B xv es) (ap : apart bv xv) (hB : B ≤ w.heap.size) : Two B w bv xv w bv xv bs es := ⟨Fr.refl _ _, ob, oe, ap, fun _ h => .inl h, fun _ h => .inl h, hB⟩
theorem Two.next {B : Nat} {W w1 : World} {bv xv bv' xv' : Value} {bs es : List Int} (h : Two B W bv xv w bv' xv' bs es) (hb : Below w.heap.size w w1) : Two B W bv xv w1 bv' xv' bs es :=
  ⟨h.fr.trans (S' := fun _ => False) (Fr.of_below hb) (fun _ h => h.elim), h.ob.keep hb, h.oe.keep hb, h.ap, h.lb, h.le, h.B⟩
theorem Two.addB {B : Nat} {W : World} {bv xv bv' xv' yv : Value} {bs es : List Int} {y : Int} {T : TypeId} (h : Two B W bv xv w bv' xv' bs es) (hy : Ints w yv [y]) (hl : bs.length < 1099511627776)
    (k : ∀ v w', Two B W bv xv w' v xv' (bs ++ [y]) es → w.grownBy w' bv'.ownBlock → K v w') : oM Tryz.prog (.call { callee := .builtin .append, args := #[.tmp 0, .tmp 1], argTypes := #[22, 22] }) T [bv', yv] K w := by
  refine append1g h.ob (Nat.le_trans h.B h.fr.size) hy hl (fun v w' ho hg hv => k v w' ⟨h.fr.by hg (fun i e => (h.lb i e).imp .inl id), ho, owns_keep h.oe (fun i hi => hg.block i (owns_own h.oe hi).1 (fun e => h.ap i (by first | exact e | exact e.symm) hi)), ?_, ?_, h.le, h.B⟩ hg)
  · intro i e1 e2
    rcases hv i e1 with h1 | h1
    · exact h.ap i h1 e2
    · have := (owns_own h.oe e2).1
      omega
  · intro i e1
    rcases hv i e1 with h1 | h1
    · exact h.lb i h1
    · exact .inr (Nat.le_trans h.fr.size h1)
theorem Two.addE {B : Nat} {W : World} {bv xv bv' xv' yv : Value} {bs es : List Int} {y : Int} {T : TypeId} (h : Two B W bv xv w bv' xv' bs es) (hy : Ints w yv [y]) (hl : es.length < 1099511627776)
    (k : ∀ v w', Two B W bv xv w' bv' v bs (es ++ [y]) → w.grownBy w' xv'.ownBlock → K v w') : oM Tryz.prog (.call { callee := .builtin .append, args := #[.tmp 0, .tmp 1], argTypes := #[22, 22] }) T [xv', yv] K w := by
  refine append1g h.oe (Nat.le_trans h.B h.fr.size) hy hl (fun v w' ho hg hv => k v w' ⟨h.fr.by hg (fun i e => (h.le i e).imp .inr id), owns_keep h.ob (fun i hi => hg.block i (owns_own h.ob hi).1 (fun e => h.ap i hi (by first | exact e | exact e.symm))), ho, ?_, h.lb, ?_, h.B⟩ hg)
  · intro i e1 e2
    rcases hv i e2 with h1 | h1
    · exact h.ap i e1 h1
    · have := (owns_own h.ob e1).1
      omega
  · intro i e1
    rcases hv i e1 with h1 | h1
    · exact h.le i h1
    · exact .inr (Nat.le_trans h.fr.size h1)
theorem Two.below {B : Nat} {W : World} {bv xv bv' xv' : Value} {bs es bs0 es0 : List Int} (h : Two B W bv xv w bv' xv' bs es) (h0 : Below B w0 W) (ob : OwnI W B bv bs0) (oe : OwnI W B xv es0) (hB : B ≤ w0.heap.size) : Below B w0 w :=
  ⟨h.fr.os.trans h0.os, h.fr.tape.trans h0.tape, h.fr.output.trans h0.output, Nat.le_trans h0.size h.fr.size, fun i hi => (h.fr.block i (by have := h.B; omega) (fun e => by
    rcases e with e | e
    · have := (owns_own ob e).2.1; omega
    · have := (owns_own oe e).2.1; omega)).trans (h0.block i hi)⟩
theorem Two.lit {B : Nat} {W : World} {bv xv bv' xv' : Value} {bs es : List Int} (h : Two B W bv xv w bv' xv' bs es) : (∀ i, bv'.ownBlock = some i → i < w.heap.size) ∧ (∀ i, xv'.ownBlock = some i → i < w.heap.size) :=
  ⟨fun i e => (owns_own h.ob e).1, fun i e => (owns_own h.oe e).1⟩
def LfJ (w0 : World) (bs es : List Int) (vs : List Value) (w' : World) : Prop := Below w0.heap.size w0 w' ∧ ∃ (bv ev : Value) (i : Nat), vs = [bv, ev, .int .i64 (i : Int)] ∧ i ≤ bs.length ∧ OwnI w' w0.heap.size bv (bs.take i) ∧ OwnI w' w0.heap.size ev (es.take i) ∧ apart bv ev
theorem left_ok (s : Stp) (e : Eqn) (vs : List Int) {v ev lv : Value} (hs : SetR w s v) (he : SRow 2 TrmAt w ev e.terms) (hti : I64 e.target) (hl : Ints w lv vs) (hlen : e.terms.length < 1000) (hv : ∀ t ∈ e.terms, 0 ≤ t.var ∧ t.var < vs.length)
    (k : ∀ w', Below w.heap.size w w' → K (.int .i64 (leftM s e vs)) w') : callM Tryz.prog 180 #[stpV s v, eqnV e ev, lv] K w := by
  apply sh_180_ok
  unfold sh_180
  have hs' := hs
  have he' := he
  have hl' := hl
  obtain ⟨ad, c, rfl⟩ := hs.ints.isSlice
  obtain ⟨ead, ec, rfl⟩ := he.isSlice
  obtain ⟨lad, lc, rfl⟩ := hl.isSlice
  refine box_kn (cs := stpC s (.slice ad s.bases.length c)) rfl (.start w) fun b1 W1 hk hb1 hbb => ?_
  refine box_kn (cs := eqnC e (.slice ead e.terms.length ec)) rfl hk fun b2 W2 hk hb2 hbb => ?_
  clear hb1 hb2 hbb
  repeat (any_goals ((with_reducible refine idO ?_); (with_reducible refine oM_gen fun Kv hK=>?_); simp [go_sem, hk.cells]; refine hK _ _ ?_; clear hK; clear Kv))
  have eL : leftM s e vs = (prodG s.g (e.terms.map fun t => t.base) (e.terms.map fun t => vs.getD t.var.toNat 0)).1 := rfl
  rw [eL] at k
  clear eL
  have hbsl : (e.terms.map fun t => t.base).length = e.terms.length := by simp
  have hesl : (e.terms.map fun t => vs.getD t.var.toNat 0).length = e.terms.length := by simp
  refine ⟨LfJ W2 (e.terms.map fun t => t.base) (e.terms.map fun t => vs.getD t.var.toNat 0), vsMu e.terms.length, ⟨Below.refl _ _, _, _, 0, rfl, by omega, own_none, own_none, fun i h => by cases h⟩, ?_⟩
  rintro _ _ w3 ⟨hb3, bv, xv, i, rfl, hi, hob, hoe, hap⟩
  have hk3 := hk.next hb3
  by_cases hin : i = e.terms.length
  · rw [List.take_of_length_le (by omega)] at hob hoe
    have hbi : ∀ n ∈ (e.terms.map fun t => t.base), I64 n := fun n hn => by
      obtain ⟨t, ht, rfl⟩ := List.mem_map.1 hn
      obtain ⟨j, hj, rfl⟩ := List.getElem_of_mem ht
      obtain ⟨_, _, _, _, _, _, _, h⟩ := he'.at hj
      exact h
    have hei : ∀ n ∈ (e.terms.map fun t => vs.getD t.var.toNat 0), I64 n := fun n hn => by
      obtain ⟨t, ht, rfl⟩ := List.mem_map.1 hn
      obtain ⟨h1, h2⟩ := hv t ht
      have hlt : t.var.toNat < vs.length := by omega
      rw [List.getD_eq_getElem?_getD, List.getElem?_eq_getElem hlt]
      exact hl'.rng _ (List.getElem_mem hlt)
    repeat (any_goals (first
    | (with_reducible ((refine idCond ?_); refine yO ?_))
    | ((with_reducible refine idO ?_); (with_reducible refine oM_gen fun Kv hK=>?_); simp [go_sem, hk3.cells]; refine hK _ _ ?_; clear hK; clear Kv)))
    refine Product_ok s.g (hob.ints hbi (by omega)) (hoe.ints hei (by omega)) (fun w4 h4 => ?_)
    have hk := hk3.next h4
    repeat (any_goals ((with_reducible refine idO ?_); (with_reducible refine oM_gen fun Kv hK=>?_); simp [go_sem]; refine hK _ _ ?_; clear hK; clear Kv))
    exact k _ hk.below
  · obtain ⟨b4, o4, rfl, hb4, d0, d1, di0, di1⟩ := (he'.next trm_stay hk3.below).at (i := i) (by omega)
    have ht := hv e.terms[i] (List.getElem_mem (by omega))
    have e1 : (e.terms.map fun t => t.base).take i ++ [e.terms[i].base] = (e.terms.map fun t => t.base).take (i + 1) := take_snoc' (by simp [List.getElem?_eq_getElem (show i < e.terms.length by omega)])
    have e2 : (e.terms.map fun t => vs.getD t.var.toNat 0).take i ++ [vs.getD e.terms[i].var.toNat 0] = (e.terms.map fun t => vs.getD t.var.toNat 0).take (i + 1) := take_snoc' (by simp [List.getElem?_eq_getElem (show i < e.terms.length by omega)])
    have htb : I64 e.terms[i].base := di1
    have hlt : e.terms[i].var.toNat < vs.length := by omega
    obtain ⟨b5, o5, rfl, hb5, cv, rv, _⟩ := hl'.at (i := e.terms[i].var.toNat) hlt
    have hgd : vs.getD e.terms[i].var.toNat 0 = vs[e.terms[i].var.toNat] := by rw [List.getD_eq_getElem?_getD, List.getElem?_eq_getElem hlt]; rfl
    rw [hgd] at e2
    have cv := cv _ hk3.below
    generalize vs[e.terms[i].var.toNat] = val at *
    generalize e.terms[i] = t at *
    have hkx : Kn w3 [] w3 := .start w3
    repeat (any_goals (first
    | ((with_reducible refine local_trm t hkx ?_); intro g14 W14 hk14 hb14 hg14)
    | (with_reducible ((refine idCond ?_); refine yN ?_))
    | ((with_reducible refine idO ?_); (with_reducible refine oM_gen fun Kv hK=>?_); simp [go_sem, d0, d1]; (first|refine hK _ _ ?_|refine And.intro (by omega) (hK _ _ ?_)); clear hK; clear Kv)))
    have cvl : b5 < w3.heap.size := Nat.lt_of_lt_of_le hb5 hk3.below.size
    have cw : cellsAre W14 ((⟨b5, o5 + t.var.toNat, none⟩, Value.int .i64 val) :: cellsOf [] g14 0 (trmC t)) := ⟨by rw [hb14.cell cvl]; exact cv, hk14.cells⟩
    have hoB := fun i (e : bv.ownBlock = some i) => owns_own hob e
    have hoE := fun i (e : xv.ownBlock = some i) => owns_own hoe e
    have htwo := Two.start (hob.keep (hb14.on .drawn)) (hoe.keep (hb14.on .drawn)) hap (w := { W14 with drawn := W14.drawn + 1 }) (by have := hb3.size; have := hb14.size; show W2.heap.size ≤ W14.heap.size; omega)
    have hbW : Below W2.heap.size W2 { W14 with drawn := W14.drawn + 1 } := hb3.on (hb14.on .drawn)
    have hobW := hob.keep (hb14.on (.drawn (w := W14) (B := W14.heap.size)))
    have hoeW := hoe.keep (hb14.on (.drawn (w := W14) (B := W14.heap.size)))
    have cW : cellsAre { W14 with drawn := W14.drawn + 1 } ((⟨b5, o5 + t.var.toNat, none⟩, Value.int .i64 val) :: cellsOf [] g14 0 (trmC t)) := cw
    have hoff : ∀ p ∈ ((⟨b5, o5 + t.var.toNat, none⟩, Value.int .i64 val) :: cellsOf [] g14 0 (trmC t) : List (Addr × Value)), p.1.block < ({ W14 with drawn := W14.drawn + 1 } : World).heap.size ∧ ¬ (bv.ownBlock = some p.1.block ∨ xv.ownBlock = some p.1.block) := fun p hp => by
      refine ⟨cells_lt cW p hp, ?_⟩
      rcases List.mem_cons.1 hp with rfl | hp
      · rintro (e | e)
        · have h1 : W2.heap.size ≤ b5 := (hoB _ e).2.1; have h2 := hk.below.size; omega
        · have h1 : W2.heap.size ≤ b5 := (hoE _ e).2.1; have h2 := hk.below.size; omega
      · rcases cellsOf_mem _ _ _ hp with h | hp
        · rintro (e | e)
          · have := (hoB _ e).1; omega
          · have := (hoE _ e).1; omega
        · cases hp
    refine ⟨Fr (fun i => bv.ownBlock = some i ∨ xv.ownBlock = some i) { W14 with drawn := W14.drawn + 1 }, Fr.refl _ _, ?_⟩
    generalize ({ W14 with drawn := W14.drawn + 1 } : World) = W at htwo hbW hobW hoeW cW hoff ⊢
    clear cw cv d0 d1
    have hti : (t.var : Int) < vs.length := ht.2
    have hti0 := ht.1
    have etn : ((t.var.toNat : Nat) : Int) = t.var := Int.toNat_of_nonneg ht.1
    repeat (any_goals (first
    | (with_reducible refine pureH_in ?_)
    | ((with_reducible refine idOH ?_); (with_reducible refine oH_of ⟨_, rfl⟩ (fun W0 hW0 => by (refine oM_gen (fun Kv hK => ?_)); simp [go_sem, (cells_fr cW hW0 hoff)]; (first | exact hK _ _ ⟨rfl, rfl⟩ | exact ⟨by omega, hK _ _ ⟨rfl, rfl⟩⟩)) ?_))))
    have fin : ∀ (w' : World) (v' u' : Value), Two W2.heap.size W bv xv w' v' u' ((e.terms.map fun t => t.base).take i ++ [t.base]) ((e.terms.map fun t => vs.getD t.var.toNat 0).take i ++ [val]) →
        LfJ W2 (e.terms.map fun t => t.base) (e.terms.map fun t => vs.getD t.var.toNat 0) [v', u', .int .i64 ((i : Int) + 1)] w' ∧ vsMu e.terms.length [v', u', .int .i64 ((i : Int) + 1)] w' < vsMu e.terms.length [bv, xv, .int .i64 (i : Int)] w3 := fun w' v' u' h => by
      refine ⟨⟨h.below hbW hobW hoeW (Nat.le_refl _), v', u', i + 1, rfl, by omega, by rw [← e1]; exact h.ob, by rw [← e2]; exact h.oe, h.ap⟩, ?_⟩
      simp only [vsMu_eq]; omega
    have hn1 : ((e.terms.map fun t => t.base).take i).length < 1099511627776 := by rw [List.length_take]; omega
    have hn2 : ((e.terms.map fun t => vs.getD t.var.toNat 0).take i).length < 1099511627776 := by rw [List.length_take]; omega
    have hWb : ∀ i, bv.ownBlock = some i → i < W.heap.size := htwo.lit.1
    constructor
    · refine mk1g t.base htb (fun y7 w7 h7 hy7 hb7 => ?_)
      have t7 := htwo.next h7
      refine ⟨t7.fr, ?_⟩
      constructor
      · refine t7.addB hy7 hn1 (fun v8 w8 t8 hg8 => ⟨t8.fr, ?_⟩)
        refine mk1g val rv (fun y9 w9 h9 hy9 hb9 => ?_)
        have t9 := t8.next h9
        refine ⟨t9.fr, ?_⟩
        refine t9.addE hy9 hn2 (fun v10 w10 t10 hg10 => ⟨t10.fr, t10.fr, t10.fr, ?_⟩)
        repeat (any_goals ((with_reducible refine idO ?_); (with_reducible refine oM_gen fun Kv hK=>?_); simp [go_sem]; (try simp (disch := omega) only [wrapI64, wrapU8, wrapU32, wrapU64]); refine hK _ _ ?_; clear hK; clear Kv))
        exact fin _ _ _ t10
      · refine mk1g val rv (fun y8 w8 h8 hy8 hb8 => ?_)
        have t8 := t7.next h8
        refine ⟨t8.fr, ?_⟩
        refine t8.addB (hy7.next h8) hn1 (fun v9 w9 t9 hg9 => ⟨t9.fr, ?_⟩)
        have hy8 := ints_grown hy8 hg9 (fun i e1 e2 => by have := hWb i e2; have := h7.size; rw [hb8] at e1; cases e1; omega)
        refine t9.addE hy8 hn2 (fun v10 w10 t10 hg10 => ⟨t10.fr, t10.fr, t10.fr, ?_⟩)
        repeat (any_goals ((with_reducible refine idO ?_); (with_reducible refine oM_gen fun Kv hK=>?_); simp [go_sem]; (try simp (disch := omega) only [wrapI64, wrapU8, wrapU32, wrapU64]); refine hK _ _ ?_; clear hK; clear Kv))
        exact fin _ _ _ t10
    · refine mk1g val rv (fun y7 w7 h7 hy7 hb7 => ?_)
      have t7 := htwo.next h7
      refine ⟨t7.fr, ?_⟩
      refine mk1g t.base htb (fun y8 w8 h8 hy8 hb8 => ?_)
      have t8 := t7.next h8
      refine ⟨t8.fr, ?_⟩
      refine t8.addB hy8 hn1 (fun v9 w9 t9 hg9 => ⟨t9.fr, ?_⟩)
      have hy7 := ints_grown (hy7.next h8) hg9 (fun i e1 e2 => by have := hWb i e2; rw [hb7] at e1; cases e1; omega)
      refine t9.addE hy7 hn2 (fun v10 w10 t10 hg10 => ⟨t10.fr, t10.fr, t10.fr, ?_⟩)
      repeat (any_goals ((with_reducible refine idO ?_); (with_reducible refine oM_gen fun Kv hK=>?_); simp [go_sem]; (try simp (disch := omega) only [wrapI64, wrapU8, wrapU32, wrapU64]); refine hK _ _ ?_; clear hK; clear Kv))
      exact fin _ _ _ t10
end
end Go.Proofs
namespace Go.Proofs
open Go Go.Sh Go.RowKit FdSpec TkSpec CodeSpec
set_option linter.unusedSimpArgs false
set_option linter.unusedVariables false
set_option maxRecDepth 10000
section
variable {K : Value → World → Prop} {w w0 : World} {L : List (Addr × Value)}
def IeJ (p : Eqn → Bool) (l : List Eqn) (R : Bool) (w0 : World) (vs : List Value) (w' : World) : Prop := Below w0.heap.size w0 w' ∧ ∃ (v u : Value) (i : Nat), vs = [v, u, .int .i64 (i : Int)] ∧ i ≤ l.length ∧ (l.drop i).any p = R
theorem IndexEq_ok {v F : Value} {l : List Eqn} (p : Eqn → Bool) (hl : SRow 2 EqnAt w v l)
    (hF : ∀ (w' : World) (x : Eqn) (xv : Value) (K' : Value → World → Prop) (T : TypeId), Below w.heap.size w w' → x ∈ l → SRow 2 TrmAt w' xv x.terms → I64 x.target → (∀ w'', Below w'.heap.size w' w'' → K' (.bool (p x)) w'') → oM Tryz.prog (.call { callee := .value (.tmp 0), args := #[.tmp 1], argTypes := #[167] }) T [F, eqnV x xv] K' w')
    (k : ∀ w' (r : Int), Below w.heap.size w w' → decide (0 ≤ r) = l.any p → K (.int .i64 r) w') : callM Tryz.prog 203 #[v, F] K w := by
  apply sh_203_ok
  unfold sh_203
  obtain ⟨ad, c, rfl⟩ := hl.isSlice
  have hll := hl.len
  repeat (any_goals ((with_reducible refine idO ?_); (with_reducible refine oM_gen fun Kv hK=>?_); simp [go_sem]; refine hK _ _ ?_; clear hK; clear Kv))
  refine ⟨IeJ p l (l.any p) w, vsMu l.length, ⟨Below.refl _ _, _, _, 0, rfl, by omega, rfl⟩, ?_⟩
  generalize l.any p = R at *
  rintro _ _ w1 ⟨h1, u1, u2, i, rfl, hi, ha⟩
  by_cases hin : i = l.length
  · rw [List.drop_of_length_le (by omega), List.any_nil] at ha
    repeat (any_goals (first
    | (with_reducible ((refine idCond ?_); refine yO ?_))
    | ((with_reducible refine idO ?_); (with_reducible refine oM_gen fun Kv hK=>?_); simp [go_sem]; refine hK _ _ ?_; clear hK; clear Kv)))
    exact k _ _ h1 (by rw [← ha]; rfl)
  · rw [List.drop_eq_getElem_cons (by omega), List.any_cons] at ha
    obtain ⟨b1, o1, rfl, hb1, tv, c0, c1, htr, hti⟩ := (hl.next eqn_stay h1).at (i := i) (by omega)
    have hm := List.getElem_mem (show i < l.length by omega)
    generalize l[i] = e at *
    obtain ⟨tad, tc, rfl⟩ := htr.isSlice
    repeat (any_goals (first
    | (with_reducible ((refine idCond ?_); refine yN ?_))
    | ((with_reducible refine idO ?_); (with_reducible refine oM_gen fun Kv hK=>?_); simp [go_sem, c0, c1]; (first|refine hK _ _ ?_|refine And.intro (by omega) (hK _ _ ?_)); clear hK; clear Kv)))
    refine hF w1 e _ _ _ h1 hm htr hti (fun w2 h2 => ?_)
    cases hp : p e with
    | true =>
      rw [hp, Bool.true_or] at ha
      repeat (any_goals (with_reducible ((refine idCond ?_); refine yL ?_)))
      exact k _ _ (h1.on h2) (by rw [← ha]; simp)
    | false =>
      rw [hp, Bool.false_or] at ha
      repeat (any_goals (first
      | (with_reducible ((refine idCond ?_); refine yM ?_))
      | ((with_reducible refine idO ?_); (with_reducible refine oM_gen fun Kv hK=>?_); simp [go_sem]; (try simp (disch := omega) only [wrapI64, wrapU8, wrapU32, wrapU64]); refine hK _ _ ?_; clear hK; clear Kv)))
      refine ⟨⟨h1.on h2, _, _, i + 1, rfl, by omega, ha⟩, ?_⟩
      simp only [vsMu_eq]; omega
theorem ContainsEq_ok {v F : Value} {l : List Eqn} (p : Eqn → Bool) (hl : SRow 2 EqnAt w v l)
    (hF : ∀ (w' : World) (x : Eqn) (xv : Value) (K' : Value → World → Prop) (T : TypeId), Below w.heap.size w w' → x ∈ l → SRow 2 TrmAt w' xv x.terms → I64 x.target → (∀ w'', Below w'.heap.size w' w'' → K' (.bool (p x)) w'') → oM Tryz.prog (.call { callee := .value (.tmp 0), args := #[.tmp 1], argTypes := #[167] }) T [F, eqnV x xv] K' w')
    (k : ∀ w', Below w.heap.size w w' → K (.bool (l.any p)) w') : callM Tryz.prog 178 #[v, F] K w := by
  apply sh_178_ok
  unfold sh_178
  refine IndexEq_ok p hl hF (fun w' r hb hr => ?_)
  repeat (any_goals ((with_reducible refine idO ?_); (with_reducible refine oM_gen fun Kv hK=>?_); simp [go_sem]; refine hK _ _ ?_; clear hK; clear Kv))
  rw [hr]
  exact k _ hb
theorem holds_ok (s : Stp) (c : Clm) (l : List Int) {v cv lv : Value} (hs : SetR w s v) (hc : ClmR w c cv) (hl : Ints w lv l) (hfit : ∀ e ∈ c.eqs, e.terms.length < 1000 ∧ ∀ t ∈ e.terms, 0 ≤ t.var ∧ t.var < c.vars)
    (k : ∀ w', Below w.heap.size w w' → K (.bool (holdsM s c l)) w') : callM Tryz.prog 137 #[stpV s v, clmV c cv, lv] K w := by
  apply sh_137_ok
  unfold sh_137
  have hs' := hs
  have hc' := hc
  have hl' := hl
  obtain ⟨ad, ca, rfl⟩ := hs.ints.isSlice
  obtain ⟨ead, ec, rfl⟩ := hc.eqs.isSlice
  obtain ⟨lad, lc, rfl⟩ := hl.isSlice
  refine box_kn (cs := stpC s (.slice ad s.bases.length ca)) rfl (.start w) fun b1 W1 hk hb1 hbb => ?_
  refine box_kn (cs := clmC c (.slice ead c.eqs.length ec)) rfl hk fun b2 W2 hk hb2 hbb => ?_
  refine box_kn (cs := [.slice lad l.length lc]) rfl hk fun b3 W3 hk hb3 hbb => ?_
  clear hb1 hb2 hb3 hbb
  repeat (any_goals ((with_reducible refine idO ?_); (with_reducible refine oM_gen fun Kv hK=>?_); simp [go_sem, hk.cells]; refine hK _ _ ?_; clear hK; clear Kv))
  refine exponents_ok s c.vars (hs'.next hk.below) (hl'.next hk.below) (fun w4 h4 => ?_)
  have hk := hk.next h4
  clear h4
  have eH : holdsM s c l = (exponentsM s l c.vars && !(c.eqs.any fun e => !decide (leftM s e l = e.target))) := rfl
  cases hx : exponentsM s l c.vars with
  | false =>
    rw [hx, Bool.false_and] at eH
    rw [eH] at k
    repeat (any_goals (first
    | (with_reducible ((refine idCond ?_); refine yL ?_))
    | ((with_reducible refine idO ?_); (with_reducible refine oM_gen fun Kv hK=>?_); simp [go_sem, hk.cells]; refine hK _ _ ?_; clear hK; clear Kv)))
    exact k _ hk.below
  | true =>
  rw [hx, Bool.true_and] at eH
  rw [eH] at k
  have hln : (l.length : Int) = c.vars := by
    unfold exponentsM at hx
    simp only [Bool.and_eq_true, decide_eq_true_eq] at hx
    exact hx.1
  repeat (any_goals (first
  | (with_reducible ((refine idCond ?_); refine yM ?_))
  | ((with_reducible refine idO ?_); (with_reducible refine oM_gen fun Kv hK=>?_); simp [go_sem, hk.cells]; refine hK _ _ ?_; clear hK; clear Kv)))
  refine ContainsEq_ok (fun e => !decide (leftM s e l = e.target)) (hc'.eqs.next eqn_stay hk.below) ?_ ?_
  · intro w' x xv K' T hb hx htr hti h'
    refine oM_callv1 (by kernel_rfl) ?_
    have hk := hk.next hb
    show callM Tryz.prog 179 #[eqnV x xv, .pointer (some ⟨b1, 0, none⟩), .pointer (some ⟨b3, 0, none⟩)] K' w'
    apply sh_179_ok
    unfold sh_179
    obtain ⟨xad, xc, rfl⟩ := htr.isSlice
    refine box_kn (cs := eqnC x (.slice xad x.terms.length xc)) rfl (.start w') fun b5 W5 hk5 hb5 hbb => ?_
    have hk := hk.next hb5
    have htr := htr.next trm_stay hb5
    have hk6 := hk5.drew
    have hk := hk.drew
    have htr := htr.next trm_stay (.drawn (B := W5.heap.size))
    refine ⟨Nx { W5 with drawn := W5.drawn + 1 }, Below.refl _ _, rfl, ?_⟩
    generalize ({ W5 with drawn := W5.drawn + 1 } : World) = W9 at hk hk6 htr ⊢
    repeat (any_goals ((with_reducible refine idOH ?_); (with_reducible refine oH_of ⟨_, rfl⟩ (fun W0 hW0 => by (refine oM_gen (fun Kv hK => ?_)); simp [go_sem, (hk.next hW0).cells, (hk6.next hW0).cells]; (first | exact hK _ _ ⟨rfl, rfl⟩ | exact ⟨by omega, hK _ _ ⟨rfl, rfl⟩⟩)) ?_)))
    refine ⟨Nx, ?_⟩
    apply monoE
    · intro w1 h1
      exact left_ok s x l (hs'.next (hk.next h1).below) (htr.next trm_stay h1) hti (hl'.next (hk.next h1).below) (hfit x hx).1 (fun t ht => by have := (hfit x hx).2 t ht; omega) (fun w2 h2 => ⟨h1.on h2, h2, rfl⟩)
    (intro w9 h9; repeat (intro v9 e9; try (obtain rfl := e9)))
    have hk6 := hk6.next h9
    repeat (any_goals ((with_reducible refine idO ?_); (with_reducible refine oM_gen fun Kv hK=>?_); simp [go_sem, hk6.cells]; refine hK _ _ ?_; clear hK; clear Kv))
    exact h' _ hk6.below
  · intro w3 h3
    have hk := hk.next h3
    generalize (c.eqs.any fun e => !decide (leftM s e l = e.target)) = q at *
    repeat (any_goals ((with_reducible refine idO ?_); (with_reducible refine oM_gen fun Kv hK=>?_); simp [go_sem]; refine hK _ _ ?_; clear hK; clear Kv))
    exact k _ hk.below
theorem claim_fit {s : Stp} {c : Clm} (h : claimM s c = true) : ∀ e ∈ c.eqs, e.terms.length < 1000 ∧ ∀ t ∈ e.terms, 0 ≤ t.var ∧ t.var < c.vars := by
  unfold claimM at h
  simp only [Bool.and_eq_true] at h
  intro e he
  have := List.all_eq_true.1 h.2 e he
  unfold eqnFine at this
  simp only [Bool.and_eq_true, decide_eq_true_eq] at this
  refine ⟨by omega, fun t ht => ?_⟩
  have := List.all_eq_true.1 this.2 t ht
  unfold trmFine at this
  simp only [Bool.and_eq_true, decide_eq_true_eq] at this
  exact this.1
theorem Holds_ok (s : Stp) (c : Clm) (l : List Int) {v cv lv : Value} (hs : SetR w s v) (hc : ClmR w c cv) (hl : Ints w lv l)
    (k : ∀ w', Below w.heap.size w w' → K (.bool (HoldsM s c l)) w') : callM Tryz.prog 67 #[stpV s v, clmV c cv, lv] K w := by
  apply sh_67_ok
  unfold sh_67
  have hs' := hs
  have hc' := hc
  obtain ⟨ad, ca, rfl⟩ := hs.ints.isSlice
  obtain ⟨ead, ec, rfl⟩ := hc.eqs.isSlice
  refine box_kn (cs := stpC s (.slice ad s.bases.length ca)) rfl (.start w) fun b1 W1 hk hb1 hbb => ?_
  refine box_kn (cs := clmC c (.slice ead c.eqs.length ec)) rfl hk fun b2 W2 hk hb2 hbb => ?_
  clear hb1 hb2 hbb
  have eH : HoldsM s c l = (validS s && claimM s c && holdsM s c l) := rfl
  repeat (any_goals ((with_reducible refine idO ?_); (with_reducible refine oM_gen fun Kv hK=>?_); simp [go_sem, hk.cells]; refine hK _ _ ?_; clear hK; clear Kv))
  refine ValidSetup_ok s (hs'.next hk.below) (fun w4 h4 => ?_)
  have hk := hk.next h4
  clear h4
  cases hv : validS s with
  | false =>
    rw [hv, Bool.false_and, Bool.false_and] at eH
    rw [eH] at k
    repeat (any_goals (with_reducible first|((refine idGd ?_); refine zB ?_)|((refine idPick ?_); refine yC ?_)))
    exact k _ hk.below
  | true =>
  rw [hv, Bool.true_and] at eH
  repeat (any_goals (first
  | (with_reducible ((refine idGd ?_); refine zA ?_))
  | ((with_reducible refine idO ?_); (with_reducible refine oM_gen fun Kv hK=>?_); simp [go_sem, hk.cells]; refine hK _ _ ?_; clear hK; clear Kv)))
  refine validClaim_ok s c (hs'.next hk.below) (hc'.next hk.below) (fun w5 h5 => ?_)
  have hk := hk.next h5
  clear h5
  cases hcl : claimM s c with
  | false =>
    rw [hcl, Bool.false_and] at eH
    rw [eH] at k
    repeat (any_goals (with_reducible first|((refine idGd ?_); refine zB ?_)|((refine idPick ?_); first|refine yB ?_|refine yC ?_)))
    exact k _ hk.below
  | true =>
  rw [hcl, Bool.true_and] at eH
  rw [eH] at k
  repeat (any_goals (first
  | (with_reducible first|refine pureM_in ?_|((refine idGd ?_); refine zA ?_)|((refine idPick ?_); refine yB ?_))
  | ((with_reducible refine idO ?_); (with_reducible refine oM_gen fun Kv hK=>?_); simp [go_sem, hk.cells]; refine hK _ _ ?_; clear hK; clear Kv)))
  refine holds_ok s c l (hs'.next hk.below) (hc'.next hk.below) (hl.next hk.below) (claim_fit hcl) (fun w6 h6 => ?_)
  have hk := hk.next h6
  repeat (any_goals (with_reducible ((refine idPick ?_); refine yB ?_)))
  exact k _ hk.below
end
end Go.Proofs
namespace Go.Proofs
open Go Go.Sh Go.RowKit FdSpec TkSpec CodeSpec
set_option linter.unusedSimpArgs false
set_option linter.unusedVariables false
set_option maxRecDepth 10000
section
variable {K : Value → World → Prop} {w w0 : World} {L : List (Addr × Value)}
abbrev OwnT (w : World) (B : Nat) (v : Value) (l : List Trm) : Prop := w.ownsRow B 164 2 v l.length (flat trmC l)
theorem trmC_len (t : Trm) : (trmC t).length = 2 := rfl
theorem trow_of_own {B : Nat} {v : Value} {l : List Trm} (h : OwnT w B v l) (hr : ∀ t ∈ l, I64 t.var ∧ I64 t.base) (hl : l.length ≤ 9223372036854775807) : SRow 2 TrmAt w v l := by
  obtain ⟨ad, c, rfl, h0, h1⟩ := RowR.of_owns h
  refine ⟨⟨ad, c, rfl, h1.imp id ?_⟩, hl⟩
  rintro ⟨b, o, rfl, hlt, hc⟩
  refine ⟨b, o, rfl, hlt, fun i hi => ?_⟩
  have e0 := flat_at trmC_len l i 0 (List.getElem?_eq_getElem hi) (by omega)
  have e1 := flat_at trmC_len l i 1 (List.getElem?_eq_getElem hi) (by omega)
  have hm := hr _ (List.getElem_mem hi)
  exact ⟨hc _ _ e0, hc _ _ e1, hm.1, hm.2⟩
theorem appendT {B : Nat} {T : TypeId} {v : Value} {l : List Trm} {x : Trm} {g : Nat} (ho : OwnT w B v l) (hB : B ≤ w.heap.size) (hx : w.heap[g]? = some (.cells #[.int .i64 x.var, .int .i64 x.base] 164 (0, 0))) (hl : l.length < 1099511627776)
    (k : ∀ v' w', OwnT w' B v' (l ++ [x]) → w.grownBy w' v.ownBlock → (∀ i, v'.ownBlock = some i → v.ownBlock = some i ∨ w.heap.size ≤ i) → K v' w') : oM Tryz.prog (.call { callee := .builtin .append, args := #[.tmp 0, .tmp 1], argTypes := #[165, 165] }) T [v, .slice (some ⟨g, 0, none⟩) 1 1] K w := by
  refine append_at 165 T 164 ((Tryz.prog.info? 164).getD default) (.agg #[.int .i64 0, .int .i64 0]) 2 16 (by kernel_rfl) (by kernel_rfl) (by kernel_rfl) (by kernel_rfl) (by kernel_rfl) (by kernel_rfl) (by omega) (owns_base ho (Nat.zero_le _)) [.int .i64 x.var, .int .i64 x.base] (by simp) (by simp) ?_ ?_ (by simp only [maxLen]; omega) (by omega) ?_
  · rintro a ha j u hj
    cases ha
    rw [add_none, cell_of_block hx]
    simpa using hj
  · intro u hu
    simp only [List.mem_cons, List.not_mem_nil, or_false] at hu
    rcases hu with rfl | rfl <;> rfl
  · intro v' w' ho' hg hv
    have hbl : ∀ i, v.ownBlock = some i → B ≤ i := fun i hi => (owns_own ho hi).2.1
    refine k v' w' ?_ hg hv
    have e1 : (l ++ [x]).length = l.length + 1 := by simp
    have e2 : flat trmC (l ++ [x]) = flat trmC l ++ trmC x := flat_snoc l x
    show w'.ownsRow B 164 2 v' (l ++ [x]).length (flat trmC (l ++ [x]))
    rw [e1, e2]
    exact owns_up ho' (fun i hi => (hv i hi).elim (hbl i) (fun h => Nat.le_trans hB h))
theorem mkT {T : TypeId} (t : Trm) (k : ∀ W, Below w.heap.size w W → W.heap.size = w.heap.size + 1 → W.heap[w.heap.size]? = some (.cells #[.int .i64 t.var, .int .i64 t.base] 164 (0, 0)) → OwnT W w.heap.size (.slice (some ⟨w.heap.size, 0, none⟩) 1 1) [t] → K (.slice (some ⟨w.heap.size, 0, none⟩) 1 1) W) : oM Tryz.prog (.buildSlice 165 1 #[(0, .tmp 0)]) T [trmV t] K w := by
  rw [oM_buildSlice1]
  have e : (Instr.buildSlice 165 1 #[(0, trmV t)]).run Tryz.prog w = .ok (.slice (some ⟨w.heap.size, 0, none⟩) 1 1) (w.alloc (.cells #[.int .i64 t.var, .int .i64 t.base] 164)) := by kernel_rfl
  rw [e]
  exact k _ ((Below.refl _ w).alloc (Nat.le_refl _) _) (by simp) (heap_alloc_new w _) (World.ownsRow_lit w #[.int .i64 t.var, .int .i64 t.base] 1 (Nat.le_refl _) (by decide) rfl)
theorem eqn1 {e : Eqn} {tv : Value} {g : Nat} (hg : w.heap[g]? = some (.cells #[.int .i64 e.target, tv] 167 (0, 0))) (hr : SRow 2 TrmAt w tv e.terms) (ht : I64 e.target) : SRow 2 EqnAt w (.slice (some ⟨g, 0, none⟩) [e].length 1) [e] := by
  refine ⟨⟨_, 1, rfl, .inr ⟨_, 0, rfl, (Array.getElem?_eq_some_iff.1 hg).1, fun i hi => ?_⟩⟩, by simp⟩
  have hi : i = 0 := by simpa using hi
  subst hi
  exact ⟨tv, cell_of_block hg 0, cell_of_block hg 1, hr, ht⟩
theorem mkE {T : TypeId} (e : Eqn) (ad : Option Addr) (n c : Nat) (k : ∀ W, Below w.heap.size w W → W.heap[w.heap.size]? = some (.cells #[.int .i64 e.target, .slice ad n c] 167 (0, 0)) → K (.slice (some ⟨w.heap.size, 0, none⟩) [e].length 1) W) : oM Tryz.prog (.buildSlice 101 1 #[(0, .tmp 0)]) T [eqnV e (.slice ad n c)] K w := by
  rw [oM_buildSlice1]
  have e1 : (Instr.buildSlice 101 1 #[(0, eqnV e (.slice ad n c))]).run Tryz.prog w = .ok (.slice (some ⟨w.heap.size, 0, none⟩) 1 1) (w.alloc (.cells #[.int .i64 e.target, .slice ad n c] 167)) := by kernel_rfl
  rw [e1]
  exact k _ ((Below.refl _ w).alloc (Nat.le_refl _) _) (heap_alloc_new w _)
def termsM (s : Stp) (mark : Int) : List Trm := (List.range s.bases.length).map fun (i : Nat) => if i = 0 then ⟨0, mark⟩ else ⟨(i : Int), s.bases.getD i 0⟩
def ticketClaimM (s : Stp) (mark : Int) : Clm := ⟨s.bases.length, [⟨s.bases.getD 0 0, termsM s mark⟩]⟩
theorem termsM_len (s : Stp) (mark : Int) : (termsM s mark).length = s.bases.length := by unfold termsM; simp
theorem sz_clm (w : World) : (sizeOf 103).run Tryz.prog w = .ok 2 w := by kernel_rfl
theorem al_clm (w : World) : (Instr.alloc 103 true (.tuple #[])).run Tryz.prog w = .ok (.pointer (some ⟨w.heap.size, 0, none⟩)) (w.alloc (.cells [.int .i64 0, .slice none 0 0].toArray 103)) := by kernel_rfl
theorem clm_one (e : Clm) (ad : Option Addr) (n c : Nat) : ∀ u ∈ clmC e (.slice ad n c), u.oneCell' = true := by
  intro u hu
  simp only [clmC, List.mem_cons, List.not_mem_nil, or_false] at hu
  rcases hu with rfl | rfl <;> rfl
theorem build_clm (T : TypeId) (x : Int) : oM Tryz.prog (Go.Op.build 103 #[(0, (.tmp 0))]) T [.int .i64 x] = pureM (clmV ⟨x, []⟩ (.slice none 0 0)) := by
  funext K w
  kernel_rfl
theorem build_trm (T : TypeId) (x y : Int) : oM Tryz.prog (Go.Op.build 164 #[(0, (.tmp 0)), (1, (.tmp 1))]) T [.int .i64 x, .int .i64 y] = pureM (trmV ⟨x, y⟩) := by
  funext K w
  kernel_rfl
theorem build_eqn (T : TypeId) (x : Int) (ad : Option Addr) (n c : Nat) : oM Tryz.prog (Go.Op.build 167 #[(0, (.tmp 0)), (1, (.tmp 1))]) T [.int .i64 x, .slice ad n c] = pureM (eqnV ⟨x, []⟩ (.slice ad n c)) := by
  funext K w
  kernel_rfl
def muN (n : Nat) : List Value → World → Nat
  | [.int _ i], _ => n - i.toNat
  | _, _ => 0
theorem muN_eq (n : Nat) (k : IntKind) (i : Int) (w : World) : muN n [.int k i] w = n - i.toNat := rfl
theorem holdsO {w' : World} {g : Nat} {T : TypeId} {vs : List Value} {b : Option Nat} (h : Holds w g T vs) (hg : w.grownBy w' b) (hne : b ≠ some g) : Holds w' g T vs := by
  unfold Holds
  rw [hg.block g h.lt (fun e => hne (by first | exact e | exact e.symm))]; exact h
theorem Kn.grownO {w' : World} {b : Option Nat} (h : Kn w0 L w) (hg : w.grownBy w' b) (h0 : ∀ j, b = some j → w0.heap.size ≤ j) (hn : ∀ j, b = some j → ∀ p ∈ L, p.1.block ≠ j) : Kn w0 L w' := by
  refine ⟨h.below.grown hg h.below.size (fun j e => h0 j (by first | exact e | exact e.symm)), ?_⟩
  have hc := h.cells
  clear h h0
  induction L with
  | nil => trivial
  | cons p L ih =>
    have hlt := cells_lt hc p (by simp)
    exact ⟨(World.cell?_of_block (hg.block _ hlt (fun e => hn _ (by first | exact e | exact e.symm) p (by simp) rfl))).trans hc.1, ih (fun j e q hq => hn j e q (by simp [hq])) hc.2⟩
structure TcS (w0 : World) (L : List (Addr × Value)) (g0 g1 g2 B : Nat) (n b0 : Int) (tl : List Trm) (i : Nat) (w' : World) (tv : Value) : Prop where
  kn : Kn w0 L w'
  h0 : Holds w' g0 103 [.int .i64 0, .slice none 0 0]
  h1 : Holds w' g1 103 [.int .i64 n, .slice none 0 0]
  h2 : Holds w' g2 167 [.int .i64 b0, tv]
  own : OwnT w' B tv (tl.take i)
  off : tv.ownBlock ≠ some g0 ∧ tv.ownBlock ≠ some g1 ∧ tv.ownBlock ≠ some g2
def TcJ (w0 : World) (L : List (Addr × Value)) (g0 g1 g2 B : Nat) (n b0 : Int) (tl : List Trm) (vs : List Value) (w' : World) : Prop := ∃ (i : Nat) (tv : Value), vs = [.int .i64 (i : Int)] ∧ 1 ≤ i ∧ i ≤ tl.length ∧ TcS w0 L g0 g1 g2 B n b0 tl i w' tv
theorem ticketClaim_ok (s : Stp) (mark : Int) {v : Value} (hm : I64 mark) (hs : SetR w s v) (hne : 0 < s.bases.length) (hlt : s.bases.length < 1000) (k : ∀ w' cv, Below w.heap.size w w' → ClmR w' (ticketClaimM s mark) cv → K (clmV (ticketClaimM s mark) cv) w') : callM Tryz.prog 65 #[stpV s v, .int .i64 mark] K w := by
  apply sh_65_ok
  unfold sh_65
  have hs' := hs
  obtain ⟨ad, c, rfl⟩ := hs.ints.isSlice
  refine box_kn (cs := stpC s (.slice ad s.bases.length c)) rfl (.start w) fun b1 W hk hb1 hbb => ?_
  clear hb1
  have hLl := cells_lt hk.cells
  have hwW := hk.below.size
  refine arr_alloc al_clm fun g0 w1 h1 hg0 hh0 => ?_
  have hk := hk.next h1
  have hW1 := h1.size
  have hg0l := hh0.lt
  clear h1
  have hb0i := (hs'.ints.next hk.below)
  obtain ⟨bb, bo, rfl, hbb2, c0, r0, _⟩ := hb0i.at (i := 0) hne
  have hlt0 : (0 : Int) < s.bases.length := by omega
  repeat (any_goals (first
  | ((with_reducible refine arr_alloc al_clm ?_); intro g1 w2 h2 hg1 hh1)
  | ((with_reducible refine idO ?_); (with_reducible refine oM_gen fun Kv hK=>?_); simp [go_sem, hk.cells, build_clm]; refine hK _ _ ?_; clear hK; clear Kv)))
  refine arr_store sz_clm rfl rfl (clm_one ⟨s.bases.length, []⟩ none 0 0) hh1 rfl (fun w3 hg3 hh1 => ?_)
  have h3 := grown_below h2 hg3 hg1
  have hk := hk.next h3
  have hw13 := h3.size
  have hh0 := hh0.next h3
  have c0 := c0 _ h3
  simp only [Nat.add_zero] at c0
  have hw3 := hk.below.size
  clear hg3 h2 h3
  iterate 5 (any_goals ((with_reducible refine idO ?_); (with_reducible refine oM_gen fun Kv hK=>?_); simp [go_sem, hk.cells, c0, build_trm]; (first|refine hK _ _ ?_|refine And.intro (by omega) (hK _ _ ?_)); clear hK; clear Kv))
  refine mkT ⟨0, mark⟩ fun w4 h4 hq4 hc4 ho4 => ?_
  have hk := hk.next h4
  have hg2 : g1 < w3.heap.size := hh1.lt
  have hg02 : g0 < w3.heap.size := hh0.lt
  have hh0 := hh0.next h4
  have hh1 := hh1.next h4
  have hs4 := h4.size
  iterate 1 (any_goals ((with_reducible refine idO ?_); (with_reducible refine oM_gen fun Kv hK=>?_); simp [go_sem, build_eqn]; refine hK _ _ ?_; clear hK; clear Kv))
  refine arr_alloc al_eqn fun g2 w5 h5 hg5 hh2 => ?_
  have hk4 := hk
  have hk := hk.next h5
  have hh0 := hh0.next h5
  have hh1 := hh1.next h5
  have ho4 : OwnT w5 w3.heap.size _ [⟨0, mark⟩] := owns_keep ho4 (fun i hi => h5.block i (owns_own ho4 hi).1)
  have hg2l : w4.heap.size ≤ g2 := hg5
  have hs5 := h5.size
  refine arr_store sz_eqn rfl rfl (eqn_one ⟨s.bases[0], []⟩ (some ⟨w3.heap.size, 0, none⟩) 1 1) hh2 rfl (fun w6 hg6 hh2 => ?_)
  have hk := hk.wrote hg6 (by have := hk4.below.size; omega) (fun p hp => Nat.ne_of_lt (Nat.lt_of_lt_of_le (cells_lt hk4.cells p hp) hg5))
  have hh0 := hh0.other hg6 (by omega)
  have hh1 := hh1.other hg6 (by omega)
  have ho6 : OwnT w6 w3.heap.size (.slice (some ⟨w3.heap.size, 0, none⟩) 1 1) [⟨0, mark⟩] := owns_keep ho4 (fun i hi => hg6.block i (owns_own ho4 hi).1 (fun e => by have h1 : w3.heap.size = i := Option.some.inj hi; have h2 := Option.some.inj e; omega))
  have htl := termsM_len s mark
  have ht1 : (termsM s mark).take 1 = [⟨0, mark⟩] := by
    unfold termsM
    match hn : s.bases.length, hne with
    | n + 1, _ => rw [List.range_succ_eq_map]; rfl
  have hget : ∀ i, 1 ≤ i → (h : i < s.bases.length) → (termsM s mark)[i]? = some ⟨(i : Int), s.bases[i]⟩ := fun i h1 h2 => by
    unfold termsM
    rw [List.getElem?_map, List.getElem?_range h2]
    simp only [Option.map_some]
    rw [if_neg (by omega), List.getD_eq_getElem?_getD, List.getElem?_eq_getElem h2]
    rfl
  have hrng : ∀ t ∈ termsM s mark, I64 t.var ∧ I64 t.base := fun t ht => by
    obtain ⟨i, hi, rfl⟩ := List.mem_map.1 ht
    have hi : i < s.bases.length := List.mem_range.1 hi
    split
    · exact ⟨by show I64 0; constructor <;> decide, hm⟩
    · refine ⟨by constructor <;> (dsimp only; omega), ?_⟩
      dsimp only
      rw [List.getD_eq_getElem?_getD, List.getElem?_eq_getElem hi]
      exact hs'.ints.rng _ (List.getElem_mem hi)
  have eC : ticketClaimM s mark = ⟨s.bases.length, [⟨s.bases[0], termsM s mark⟩]⟩ := by
    unfold ticketClaimM
    rw [List.getD_eq_getElem?_getD, List.getElem?_eq_getElem hne]
    rfl
  rw [eC] at k
  clear eC
  generalize s.bases[0] = b0 at *
  refine ⟨TcJ w (cellsOf [] b1 0 (stpC s (.slice (some ⟨bb, bo, none⟩) s.bases.length c))) g0 g1 g2 w3.heap.size s.bases.length b0 (termsM s mark), muN s.bases.length, ⟨1, _, rfl, by omega, by omega, ⟨hk, hh0, hh1, hh2, by rw [ht1]; exact ho6, ?_⟩⟩, ?_⟩
  · exact ⟨fun e => by have h : w3.heap.size = g0 := Option.some.inj e; omega, fun e => by have h : w3.heap.size = g1 := Option.some.inj e; omega, fun e => by have h : w3.heap.size = g2 := Option.some.inj e; omega⟩
  generalize termsM s mark = tl at *
  have hgw : g0 < w6.heap.size ∧ g1 < w6.heap.size ∧ g2 < w6.heap.size := ⟨hh0.lt, hh1.lt, hh2.lt⟩
  clear ht1 ho6 ho4 hh0 hh1 hh2 hk hk4 hc4
  rintro _ _ w7 ⟨i, tv, rfl, hi1, hi2, ⟨hk, hh0, hh1, hh2, ho, off⟩⟩
  by_cases hin : i = s.bases.length
  · rw [List.take_of_length_le (by omega)] at ho
    have hlt2 : ¬ (i : Int) < s.bases.length := by omega
    obtain ⟨ad', c', rfl, _, _⟩ := RowR.of_owns ho
    have lt7 : g0 < w7.heap.size ∧ g1 < w7.heap.size := ⟨hh0.lt, hh1.lt⟩
    repeat (any_goals (first
    | (with_reducible ((refine idCond ?_); refine yM ?_))
    | ((with_reducible refine idO ?_); (with_reducible refine oM_gen fun Kv hK=>?_); simp [go_sem, hk.cells, hlt2]; refine hK _ _ ?_; clear hK; clear Kv)))
    iterate 1 (any_goals ((with_reducible refine idO ?_); (with_reducible refine oM_gen fun Kv hK=>?_); simp [go_sem, hh2.are]; refine hK _ _ ?_; clear hK; clear Kv))
    refine mkE ⟨b0, tl⟩ ad' tl.length c' (fun w8 h8 he => ?_)
    have hk := hk.next h8
    have hh0 := hh0.next h8
    have hh1 := hh1.next h8
    have ho8 : OwnT w8 _ _ _ := owns_keep ho (fun i hi => h8.block i (owns_own ho hi).1)
    have l7g0 : g0 < w7.heap.size ∧ g1 < w7.heap.size := lt7
    have l0 := hh0.lt
    have l1 := hh1.lt
    iterate 1 (any_goals ((with_reducible refine idO ?_); (with_reducible refine oM_gen fun Kv hK=>?_); simp [go_sem]; refine hK _ _ ?_; clear hK; clear Kv))
    refine arr_set (i := 1) (fun w => by kernel_rfl) rfl rfl hh1 (by simp) (fun w11 hg11 hh1 => ?_)
    have hk := hk.wrote hg11 (by omega) (fun p hp => by have := hLl p hp; omega)
    have hh0 := hh0.other hg11 (by omega)
    have hh1 : Holds w11 g1 103 [.int .i64 s.bases.length, .slice (some ⟨w7.heap.size, 0, none⟩) [(⟨b0, tl⟩ : Eqn)].length 1] := hh1
    iterate 1 (any_goals ((with_reducible refine idO ?_); (with_reducible refine oM_gen fun Kv hK=>?_); simp [go_sem, hh1.are]; refine hK _ _ ?_; clear hK; clear Kv))
    refine arr_store sz_clm (xs := clmC ⟨s.bases.length, []⟩ (.slice (some ⟨w7.heap.size, 0, none⟩) [(⟨b0, tl⟩ : Eqn)].length 1)) rfl rfl (clm_one ⟨s.bases.length, []⟩ _ _ 1) hh0 rfl (fun w12 hg12 hh0 => ?_)
    have hk := hk.wrote hg12 (by omega) (fun p hp => by have := hLl p hp; omega)
    refine ⟨clmV ⟨s.bases.length, [⟨b0, tl⟩]⟩ (.slice (some ⟨w7.heap.size, 0, none⟩) [(⟨b0, tl⟩ : Eqn)].length 1), by simp [go_sem, hh0.are], k w12 _ hk.below ⟨by constructor <;> (dsimp only; omega), ?_⟩⟩
    have ho12 : OwnT w12 _ _ _ := owns_keep ho8 (fun j hj => (hg12.block j (Nat.lt_of_lt_of_le (owns_own ho8 hj).1 hg11.size) (fun e => off.1 (by rw [hj]; first | exact e | exact e.symm))).trans (hg11.block j (owns_own ho8 hj).1 (fun e => off.2.1 (by rw [hj]; first | exact e | exact e.symm))))
    have l8 := (Array.getElem?_eq_some_iff.1 he).1
    refine eqn1 (e := ⟨b0, tl⟩) ((hg12.block _ (Nat.lt_of_lt_of_le l8 hg11.size) (fun e => ?_)).trans ((hg11.block _ l8 (fun e => ?_)).trans he)) (trow_of_own (l := tl) ho12 hrng (show tl.length ≤ 9223372036854775807 by omega)) r0
    · have := Option.some.inj e; omega
    · have := Option.some.inj e; omega
  have hlt2 : (i : Int) < s.bases.length := by omega
  obtain ⟨bb', bo', hbe, _, ca, ra, _⟩ := (hs'.ints.next hk.below).at (i := i) (by omega)
  cases hbe
  have ht2 : tl.take i ++ [⟨(i : Int), s.bases[i]⟩] = tl.take (i + 1) := by rw [List.take_add_one, hget i hi1 (by omega)]; rfl
  generalize s.bases[i] = bi at *
  repeat (any_goals (first
  | (with_reducible ((refine idCond ?_); refine yL ?_))
  | ((with_reducible refine idO ?_); (with_reducible refine oM_gen fun Kv hK=>?_); simp [go_sem, hk.cells, hlt2]; refine hK _ _ ?_; clear hK; clear Kv)))
  have hk := hk.drew
  refine ⟨Nx { w7 with drawn := w7.drawn + 1 }, Below.refl _ _, rfl, ?_⟩
  have hdr : Below w7.heap.size w7 { w7 with drawn := w7.drawn + 1 } := .drawn
  have hh0 := hh0.next hdr
  have hh1 := hh1.next hdr
  have hh2 := hh2.next hdr
  have ho : OwnT { w7 with drawn := w7.drawn + 1 } _ _ _ := owns_keep ho (fun i hi => hdr.block i (owns_own ho hi).1)
  have ca := fun W0 (h : Below ({ w7 with drawn := w7.drawn + 1 } : World).heap.size { w7 with drawn := w7.drawn + 1 } W0) => ca W0 (hdr.on h)
  generalize ({ w7 with drawn := w7.drawn + 1 } : World) = W9 at hk hh0 hh1 hh2 ho ca ⊢
  repeat (any_goals (first
  | (with_reducible refine pureH_in ?_)
  | ((with_reducible refine idOH ?_); (with_reducible refine oH_of ⟨_, rfl⟩ (fun W0 hW0 => by (refine oM_gen (fun Kv hK => ?_)); simp [go_sem, (hk.next hW0).cells, (hh2.next hW0).are, ca _ hW0]; (first | exact hK _ _ ⟨rfl, rfl⟩ | exact ⟨by omega, hK _ _ ⟨rfl, rfl⟩⟩)) ?_))))
  refine ⟨Nx, ?_⟩
  apply monoE (x := trmV ⟨i, bi⟩)
  · intro w1 h1
    change oM Tryz.prog (Go.Op.build 164 #[(0, (.tmp 0)), (1, (.tmp 1))]) 164 [.int .i64 (i : Int), .int .i64 bi] _ _
    rw [build_trm]
    exact ⟨h1, Below.refl _ _, rfl⟩
  refine monoR (fun v w' => ∃ g, v = .slice (some ⟨g, 0, none⟩) 1 1 ∧ W9.heap.size ≤ g ∧ w'.heap[g]? = some (.cells #[.int .i64 (i : Int), .int .i64 bi] 164 (0, 0))) (fun v w w1 hS h => h.imp fun g h => ⟨h.1, h.2.1, (hS.block g (Array.getElem?_eq_some_iff.1 h.2.2).1).trans h.2.2⟩) ?_ ?_
  · rintro w1 h1 _ rfl
    exact mkT ⟨i, bi⟩ (fun W hb _ hc _ => ⟨h1.on hb, hb, _, rfl, h1.size, hc⟩)
  rintro w9 h9 _ rfl _ ⟨g9, rfl, hg9, hc9⟩
  have hk := hk.next h9
  have hh0 := hh0.next h9
  have hh1 := hh1.next h9
  have hh2 := hh2.next h9
  have ho : OwnT w9 _ _ _ := owns_keep ho (fun i hi => h9.block i (owns_own ho hi).1)
  have hw9 := h9.size
  have hlt9 : g0 < w9.heap.size ∧ g1 < w9.heap.size ∧ g2 < w9.heap.size := ⟨hh0.lt, hh1.lt, hh2.lt⟩
  refine appendT (x := ⟨i, bi⟩) ho (by have := hh2.lt; omega) hc9 (by rw [List.length_take]; omega) (fun v' w10 ho' hg10 hv' => ?_)
  have hown := fun j (e : tv.ownBlock = some j) => (owns_own ho e).2.1
  have hk := Kn.grownO hk hg10 (fun j e => by have := hown j e; omega) (fun j e p hp => by have := hown j e; have := hLl p hp; omega)
  have hh0 := holdsO hh0 hg10 off.1
  have hh1 := holdsO hh1 hg10 off.2.1
  have hh2 := holdsO hh2 hg10 off.2.2
  rw [ht2] at ho'
  have hoff : v'.ownBlock ≠ some g0 ∧ v'.ownBlock ≠ some g1 ∧ v'.ownBlock ≠ some g2 := by
    exact ⟨fun e => (hv' _ e).elim off.1 (fun h => by omega), fun e => (hv' _ e).elim off.2.1 (fun h => by omega), fun e => (hv' _ e).elim off.2.2 (fun h => by omega)⟩
  obtain ⟨ad', c', rfl, _, _⟩ := RowR.of_owns ho'
  iterate 1 (any_goals ((with_reducible refine idO ?_); (with_reducible refine oM_gen fun Kv hK=>?_); simp [go_sem]; refine hK _ _ ?_; clear hK; clear Kv))
  refine arr_set (i := 1) (fun w => by kernel_rfl) rfl rfl hh2 (by simp) (fun w11 hg11 hh2 => ?_)
  have hh2 : Holds w11 g2 167 [.int .i64 b0, _] := hh2
  repeat (any_goals ((with_reducible refine idO ?_); (with_reducible refine oM_gen fun Kv hK=>?_); simp [go_sem]; (try simp (disch := omega) only [wrapI64, wrapU8, wrapU32, wrapU64]); refine hK _ _ ?_; clear hK; clear Kv))
  refine ⟨⟨i + 1, _, rfl, by omega, by omega, ⟨hk.wrote hg11 (by omega) (fun p hp => by have := hLl p hp; omega), hh0.other hg11 (by omega), hh1.other hg11 (by omega), hh2, owns_keep ho' (fun j hj => hg11.block j (owns_own ho' hj).1 (fun e => hoff.2.2 (by rw [hj]; first | exact e | exact e.symm))), hoff⟩⟩, ?_⟩
  simp only [muN_eq]; omega
end
end Go.Proofs
namespace Go.Proofs
open Go Go.Sh Go.RowKit FdSpec TkSpec CodeSpec
set_option linter.unusedSimpArgs false
set_option linter.unusedVariables false
set_option maxRecDepth 10000
section
variable {K : Value → World → Prop} {w w0 : World} {L : List (Addr × Value)}
theorem mkI1l {T : TypeId} (x : Int) (k : ∀ W, Below w.heap.size w W → OwnI W w.heap.size (.slice (some ⟨w.heap.size, 0, none⟩) 1 1) [x] → K (.slice (some ⟨w.heap.size, 0, none⟩) 1 1) W) : oM Tryz.prog (.buildSlice 22 1 #[(0, .tmp 0)]) T [.int .i64 x] K w := by
  rw [oM_buildSlice1]
  have e : (Instr.buildSlice 22 1 #[(0, .int .i64 x)]).run Tryz.prog w = .ok (.slice (some ⟨w.heap.size, 0, none⟩) 1 1) (w.alloc (.cells #[.int .i64 x] 3)) := by kernel_rfl
  rw [e]
  exact k _ ((Below.refl _ w).alloc (Nat.le_refl _) _) (World.ownsRow_lit w #[.int .i64 x] 1 (Nat.le_refl _) (by decide) rfl)
def ticketValuesM (s : Stp) (attrs : List Int) (n : Int) : List Int := powM s.g.Q n (-1) :: attrs.map (fun a => subM s.g.Q 0 a)
def TvJ (w0 : World) (L : List (Addr × Value)) (al : List Int) (vs : List Value) (w' : World) : Prop := Kn w0 L w' ∧ ∃ (ov : Value) (i : Nat), vs = [ov, .int .i64 (i : Int)] ∧ i + 1 ≤ al.length ∧ OwnI w' w0.heap.size ov (al.take (i + 1))
abbrev TvJk {w0 w' : World} {L : List (Addr × Value)} (_ : Kn w0 L w') (al : List Int) : List Value → World → Prop := TvJ w0 L al
theorem ticketValues_ok (s : Stp) (n : Int) {v lv : Value} {l : List Int} (hs : SetR w s v) (hl : Ints w lv l) (hln : l.length < 1000)
    (k : ∀ w' ov, Below w.heap.size w w' → Ints w' ov (ticketValuesM s l n) → K ov w') : callM Tryz.prog 66 #[stpV s v, lv, .int .i64 n] K w := by
  apply sh_66_ok
  unfold sh_66
  obtain ⟨ad, c, rfl⟩ := hs.ints.isSlice
  have hl' := hl
  obtain ⟨lad, lc, rfl⟩ := hl.isSlice
  refine box_kn (cs := stpC s (.slice ad s.bases.length c)) rfl (.start w) fun b1 W hk hb1 hbb => ?_
  clear hb1
  repeat (any_goals ((with_reducible refine idO ?_); (with_reducible refine oM_gen fun Kv hK=>?_); simp [go_sem, hk.cells]; refine hK _ _ ?_; clear hK; clear Kv))
  refine Pow_ok s.g.Q n (-1) (by constructor <;> decide) (fun w3 h3 => ?_)
  have hk := hk.next h3
  clear h3
  refine mkI1l _ fun w4 h4 ho => ?_
  have hwl := hk.below
  have hk3 : Kn w3 _ w3 := ⟨Below.refl _ _, hk.cells⟩
  have hk4 := hk3.next h4
  have hll : (ticketValuesM s l n).length = l.length + 1 := by unfold ticketValuesM; simp
  have hat : ∀ i, (h : i < l.length) → (ticketValuesM s l n)[i + 1]? = some (subM s.g.Q 0 l[i]) := fun i h => by unfold ticketValuesM; simp [h]
  have h0 : (ticketValuesM s l n).take 1 = [powM s.g.Q n (-1)] := rfl
  have hrng : ∀ x ∈ ticketValuesM s l n, I64 x := fun x hx => by
    rcases List.mem_cons.1 hx with rfl | hx
    · exact powM_I64 _ _ _
    · obtain ⟨a, _, rfl⟩ := List.mem_map.1 hx
      exact subM_I64 _ _ _
  generalize ticketValuesM s l n = al at *
  refine ⟨TvJk hk4 al, grMu l.length, ⟨hk4, _, 0, rfl, by omega, by rw [h0]; exact ho⟩, ?_⟩
  clear ho
  rintro _ _ w6 ⟨hk, ov, i, rfl, hi, ho⟩
  by_cases hin : i = l.length
  · rw [List.take_of_length_le (by omega)] at ho
    have k := k _ _ (hwl.on hk.below) (ho.ints hrng (by omega))
    have h1 : ¬ (i : Int) < l.length := by omega
    repeat (any_goals (first
    | (with_reducible ((refine idCond ?_); refine yM ?_))
    | ((with_reducible refine idO ?_); (with_reducible refine oM_gen fun Kv hK=>?_); simp [go_sem, hk.cells, h1]; refine hK _ _ ?_; clear hK; clear Kv)))
    exact k
  · have h1 : (i : Int) < l.length := by omega
    obtain ⟨b8, o8, rfl, hb8, ca, ra, _⟩ := (hl'.next hwl).at (i := i) (by omega)
    have htk := take_snoc' (hat i (by omega))
    generalize l[i] = e at *
    repeat (any_goals (first
    | (with_reducible ((refine idCond ?_); refine yL ?_))
    | ((with_reducible refine idO ?_); (with_reducible refine oM_gen fun Kv hK=>?_); simp [go_sem, hk.cells, h1]; refine hK _ _ ?_; clear hK; clear Kv)))
    have hk := hk.drew
    have ho := OwnI.keep ho (Below.drawn (w := w6))
    have h6 := hk.below
    refine ⟨Nx { w6 with drawn := w6.drawn + 1 }, Below.refl _ _, rfl, ?_⟩
    generalize ({ w6 with drawn := w6.drawn + 1 } : World) = W6 at hk h6 ho ⊢
    repeat (any_goals (first
    | (with_reducible refine pureH_in ?_)
    | ((with_reducible refine idOH ?_); (with_reducible refine oH_of ⟨_, rfl⟩ (fun W0 hW0 => by (refine oM_gen (fun Kv hK => ?_)); simp [go_sem, (hk.next hW0).cells, ca _ (hk.next hW0).below]; (first | exact hK _ _ ⟨rfl, rfl⟩ | exact ⟨by omega, hK _ _ ⟨rfl, rfl⟩⟩)) ?_))))
    refine ⟨Nx, ?_⟩
    apply monoE
    · intro w1 h1
      exact Sub_ok _ _ _ ⟨h1, Below.refl _ _, rfl⟩
    refine monoR (fun v w' => Ints w' v [subM s.g.Q 0 e]) (fun v w w1 hS h => h.next hS) ?_ ?_
    · rintro w1 h1 _ rfl
      exact mk1 _ (subM_I64 _ _ _) (fun v w2 h2 hi => ⟨h1.on h2, h2, hi⟩)
    rintro w9 h9 _ rfl v9 hi9
    have hk9 := hk.next h9
    have hkc := cells_lt hk3.cells
    refine append1g (ho.keep h9) (hk9.below).size hi9 (by rw [List.length_take]; omega) (fun v10 w10 ho10 hg10 _ => ?_)
    have hob := fun j (e : ov.ownBlock = some j) => (owns_own ho e).2.1
    have hk10 := Kn.grownO hk9 hg10 (fun j e => hob j e) (fun j e p hp => by have := hob j e; have := hkc p hp; omega)
    repeat (any_goals ((with_reducible refine idO ?_); (with_reducible refine oM_gen fun Kv hK=>?_); simp [go_sem]; (try simp (disch := omega) only [wrapI64, wrapU8, wrapU32, wrapU64]); refine hK _ _ ?_; clear hK; clear Kv))
    rw [htk] at ho10
    refine ⟨⟨hk10, _, i + 1, rfl, by omega, ho10⟩, ?_⟩
    simp only [grMu_eq]; omega
def exS : Stp := ⟨⟨23, 11, 4⟩, [4, 16, 18], 3⟩
def exC : Clm := ⟨3, [⟨4, [⟨0, 8⟩, ⟨1, 16⟩, ⟨2, 18⟩]⟩]⟩
theorem ex_claim : ticketClaimM exS 8 = exC := by decide +kernel
theorem ex_values : ticketValuesM exS [5, 7] 4 = [3, 6, 4] := by decide +kernel
theorem ex_holds : HoldsM exS exC [3, 6, 4] = true := by decide +kernel
theorem ex_not : HoldsM exS exC [3, 6, 5] = false := by decide +kernel
theorem build_stp3 (T : TypeId) (g : Grp) (ad : Option Addr) (n c : Nat) (b : Int) : oM Tryz.prog (Go.Op.build 35 #[(0, (.tmp 0)), (1, (.tmp 1)), (2, (.tmp 2))]) T [grpV g, .slice ad n c, .int .i64 b] = pureM (stpV ⟨g, [], b⟩ (.slice ad n c)) := by
  funext K w
  kernel_rfl
theorem local_clm {K : Value → World → Prop} {T' T2 : TypeId} (e : Clm) (ad : Option Addr) (m c : Nat) (hk : Kn w0 L w)
    (k : ∀ b W, Kn w0 (cellsOf L b 0 (clmC e (.slice ad m c))) W → Below w.heap.size w W → w.heap.size ≤ b → K (.pointer (some ⟨b, 0, none⟩)) W) :
    oM Tryz.prog (.alloc 103) T' [] (fun v w => oM Tryz.prog (.store 103 (.tmp 0) (.tmp 1)) T2 [v, clmV e (.slice ad m c)] (fun _ w => K v w) w) w :=
  local_kn al_clm rfl sz_clm rfl rfl (clm_one e ad m c) hk k
theorem saneT_ok (hT : DbT w) (k : ∀ w', Below w.heap.size w w' → K (.bool true) w') : callM Tryz.prog 10 #[] K w := by
  apply sh_10_ok
  unfold sh_10
  have iI : ∀ x : Int, 0 ≤ x ∧ x < 100 → I64 x := fun x h => by constructor <;> omega
  iterate 1 (any_goals ((with_reducible refine idO ?_); (with_reducible refine oM_gen fun Kv hK=>?_); simp [go_sem, build_grp3]; refine hK _ _ ?_; clear hK; clear Kv))
  refine mk3 4 16 18 (iI _ (by omega)) (iI _ (by omega)) (iI _ (by omega)) (fun ad c w1 h1 hi => ?_)
  have hk := (Kn.start w).next h1
  iterate 1 (any_goals ((with_reducible refine idO ?_); (with_reducible refine oM_gen fun Kv hK=>?_); simp [go_sem, build_stp3]; refine hK _ _ ?_; clear hK; clear Kv))
  refine local_stp exS ad 3 c hk (fun b1 w2 hk h2 hb1 => ?_)
  have hs : SetR w2 exS (.slice ad 3 c) := ⟨⟨iI _ (by decide), iI _ (by decide), iI _ (by decide)⟩, hi.next h2, iI _ (by decide), hT.next hk.below⟩
  clear hi h1 h2
  iterate 1 (any_goals ((with_reducible refine idO ?_); (with_reducible refine oM_gen fun Kv hK=>?_); simp [go_sem, hk.cells]; refine hK _ _ ?_; clear hK; clear Kv))
  refine ticketClaim_ok exS 8 (iI _ (by omega)) hs (by decide) (by decide) (fun w3 cv h3 hc => ?_)
  have hk := hk.next h3
  have hs := hs.next h3
  clear h3
  rw [ex_claim] at hc ⊢
  obtain ⟨cad, cc, rfl⟩ := hc.eqs.isSlice
  refine local_clm exC cad exC.eqs.length cc hk (fun b2 w4 hk h4 hb2 => ?_)
  have hs := hs.next h4
  have hc := hc.next h4
  clear h4
  iterate 1 (any_goals ((with_reducible refine idO ?_); (with_reducible refine oM_gen fun Kv hK=>?_); simp [go_sem, hk.cells]; refine hK _ _ ?_; clear hK; clear Kv))
  refine mk2 5 7 (iI _ (by omega)) (iI _ (by omega)) (fun lv w5 h5 hl => ?_)
  have hk := hk.next h5
  have hs := hs.next h5
  have hc := hc.next h5
  clear h5
  refine ticketValues_ok exS 4 hs hl (by decide) (fun w6 ov h6 ho => ?_)
  have hk := hk.next h6
  have hs := hs.next h6
  have hc := hc.next h6
  clear h6
  rw [ex_values] at ho
  refine mk3 3 6 4 (iI _ (by omega)) (iI _ (by omega)) (iI _ (by omega)) (fun ad7 c7 w7 h7 hi7 => ?_)
  have hk := hk.next h7
  have hs := hs.next h7
  have hc := hc.next h7
  have ho := ho.next h7
  clear h7
  refine Same_ok ho hi7 (fun w8 h8 => ?_)
  have hk := hk.next h8
  have hs := hs.next h8
  have hc := hc.next h8
  have ho := ho.next h8
  clear h8
  rw [decide_eq_true rfl]
  repeat (any_goals (first
  | (with_reducible first|refine pureM_in ?_|((refine idGd ?_); refine zA ?_))
  | ((with_reducible refine idO ?_); (with_reducible refine oM_gen fun Kv hK=>?_); simp [go_sem, hk.cells]; refine hK _ _ ?_; clear hK; clear Kv)))
  refine Holds_ok exS exC [3, 6, 4] hs hc ho (fun w9 h9 => ?_)
  have hk := hk.next h9
  have hs := hs.next h9
  have hc := hc.next h9
  clear h9
  rw [ex_holds]
  repeat (any_goals (first
  | ((with_reducible refine mk3 3 6 5 (iI _ (by omega)) (iI _ (by omega)) (iI _ (by omega)) ?_); intro ad10 c10 w10 h10 hi10)
  | (with_reducible first|((refine idGd ?_); refine zA ?_)|((refine idPick ?_); refine yB ?_))
  | ((with_reducible refine idO ?_); (with_reducible refine oM_gen fun Kv hK=>?_); simp [go_sem, hk.cells]; refine hK _ _ ?_; clear hK; clear Kv)))
  have hk := hk.next h10
  refine Holds_ok exS exC [3, 6, 5] (hs.next h10) (hc.next h10) hi10 (fun w11 h11 => ?_)
  have hk := hk.next h11
  rw [ex_not]
  repeat (any_goals (first
  | (with_reducible first|((refine idGd ?_); refine zA ?_)|((refine idPick ?_); refine yB ?_))
  | ((with_reducible refine idO ?_); (with_reducible refine oM_gen fun Kv hK=>?_); simp [go_sem]; refine hK _ _ ?_; clear hK; clear Kv)))
  exact k _ hk.below
end
end Go.Proofs
namespace Go.Proofs
open Go Go.Sh Go.RowKit FdSpec TkSpec CodeSpec
set_option linter.unusedSimpArgs false
set_option linter.unusedVariables false
set_option maxRecDepth 10000
section
variable {K : Value → World → Prop} {w w0 : World} {L : List (Addr × Value)}
structure Isu where
  q : Int
  m : Mir
  x : Int
@[reducible] def isuV (c : Isu) (mv : Value) : Value := .agg #[.int .i64 c.q, mv, .int .i64 c.m.blind, .int .i64 c.x]
@[reducible] def isuC (c : Isu) (mv : Value) : List Value := [.int .i64 c.q, mv, .int .i64 c.m.blind, .int .i64 c.x]
structure IsuR (w : World) (c : Isu) (mv : Value) : Prop where
  q : I64 c.q
  m : MirR w c.m mv
  x : I64 c.x
theorem IsuR.next {w1 : World} {c : Isu} {mv : Value} (h : IsuR w c mv) (hb : Below w.heap.size w w1) : IsuR w1 c mv := ⟨h.q, h.m.next hb, h.x⟩
def tsetM (c : Isu) : Stp × Bool := if (makeG c.q).2 && decide (c.m.bases.length ≤ 9) then makeM (makeG c.q).1 c.m else (zS, false)
theorem ticketSetup_ok (c : Isu) {mv : Value} (hT : DbT w) (hc : IsuR w c mv) (k : ∀ w' sv, Below w.heap.size w w' → SetR w' (tsetM c).1 sv → K (.tuple #[stpV (tsetM c).1 sv, .bool (tsetM c).2]) w') : callM Tryz.prog 11 #[isuV c mv] K w := by
  apply sh_11_ok
  unfold sh_11
  have hm := hc.m
  obtain ⟨mad, mc, rfl⟩ := hc.m.ints.isSlice
  have k2 : ∀ w' sv r, tsetM c = r → Below w.heap.size w w' → SetR w' r.1 sv → K (.tuple #[stpV r.1 sv, .bool r.2]) w' := fun w' sv r e hb hi => by
    rw [← e] at hi ⊢
    exact k w' sv hb hi
  clear k
  refine box_kn (cs := isuC c (.slice mad c.m.bases.length mc)) rfl (.start w) fun b1 W hk hb1 hbb => ?_
  refine alloc_mine (n := 5) al_stp rfl hk fun g0 W3 hk hb3 hg0 => ?_
  clear hb1 hb3
  have eM : tsetM c = if (makeG c.q).2 && decide (c.m.bases.length ≤ 9) then makeM (makeG c.q).1 c.m else (zS, false) := rfl
  have hgr := makeG_R hc.q
  repeat (any_goals ((with_reducible refine idO ?_); (with_reducible refine oM_gen fun Kv hK=>?_); simp [go_sem, hk.cells]; refine hK _ _ ?_; clear hK; clear Kv))
  refine fMake_ok c.q hc.q (hT.next hk.below) (fun w2 h2 => ?_)
  have hk := hk.next h2
  clear h2
  generalize (makeG c.q).1 = g at *
  generalize (makeG c.q).2 = ok at *
  iterate 2 (any_goals ((with_reducible refine idO ?_); (with_reducible refine oM_gen fun Kv hK=>?_); simp [go_sem]; refine hK _ _ ?_; clear hK; clear Kv))
  refine local_grpM g hk (fun b7 W7 hk hb7 hg7 => ?_)
  clear hb7
  cases ok with
  | false =>
    rw [Bool.false_and, if_neg (by decide)] at eM
    repeat (any_goals (first
    | (with_reducible first|((refine idGd ?_); refine zD ?_)|((refine idPick ?_); refine yB ?_)|((refine idCond ?_); refine yL ?_))
    | ((with_reducible refine idO ?_); (with_reducible refine oM_gen fun Kv hK=>?_); simp [go_sem, hk.cells]; refine hK _ _ ?_; clear hK; clear Kv)))
    exact store_stp zS none 0 0 hk (fun W3 hk hc _ => ⟨_, by simp [go_sem, hc], k2 _ _ _ eM hk.below (zS_R (hT.next hk.below) (Ints.nil _))⟩)
  | true =>
  by_cases h9 : (9 : Int) < c.m.bases.length
  · rw [decide_eq_false (by omega), Bool.and_false, if_neg (by decide)] at eM
    repeat (any_goals (first
    | (with_reducible first|((refine idGd ?_); refine zC ?_)|((refine idPick ?_); refine yC ?_)|((refine idCond ?_); refine yL ?_))
    | ((with_reducible refine idO ?_); (with_reducible refine oM_gen fun Kv hK=>?_); simp [go_sem, hk.cells, h9]; refine hK _ _ ?_; clear hK; clear Kv)))
    exact store_stp zS none 0 0 hk (fun W3 hk hc _ => ⟨_, by simp [go_sem, hc], k2 _ _ _ eM hk.below (zS_R (hT.next hk.below) (Ints.nil _))⟩)
  rw [decide_eq_true (by omega), Bool.and_true, if_pos rfl] at eM
  repeat (any_goals (first
  | (with_reducible first|((refine idGd ?_); refine zC ?_)|((refine idPick ?_); refine yC ?_)|((refine idCond ?_); refine yM ?_))
  | ((with_reducible refine idO ?_); (with_reducible refine oM_gen fun Kv hK=>?_); simp [go_sem, hk.cells, h9]; refine hK _ _ ?_; clear hK; clear Kv)))
  refine Make_ok g c.m hgr (hT.next hk.below) (hm.next hk.below) (fun w4 sv h4 hr hf => ?_)
  have hgl := mine_lt hk.mine
  have hkb := hk.below.size
  have hk := hk.next h4
  clear h4
  obtain ⟨sad, sc, rfl⟩ := hr.ints.isSlice
  have eM : tsetM c = ((makeM g c.m).1, (makeM g c.m).2) := eM
  generalize (makeM g c.m).1 = t at *
  generalize (makeM g c.m).2 = q at *
  iterate 2 (any_goals ((with_reducible refine idO ?_); (with_reducible refine oM_gen fun Kv hK=>?_); simp [go_sem]; refine hK _ _ ?_; clear hK; clear Kv))
  refine local_stpM t sad t.bases.length sc hk (fun b8 W8 hk hb8 hg8 => ?_)
  have hr := hr.next hb8
  repeat (any_goals ((with_reducible refine idO ?_); (with_reducible refine oM_gen fun Kv hK=>?_); simp [go_sem, hk.cells]; refine hK _ _ ?_; clear hK; clear Kv))
  refine store_stp t sad t.bases.length sc hk (fun W3 hk hc hg3 => ⟨stpV t (.slice sad t.bases.length sc), by simp [go_sem, hc], k2 W3 (.slice sad t.bases.length sc) _ eM hk.below ⟨hr.grp, ⟨hr.ints.row.keep hg3.size (fun i hi hlt => hg3.block i hlt ?_), hr.ints.rng, hr.ints.len⟩, hr.blind, hT.next hk.below⟩⟩)
  have := hf i hi
  intro e
  have e2 : i = g0 := Option.some.inj e
  omega
structure Isg where
  w : Int
  attrs : List Int
  b : Bld
@[reducible] def isgV (i : Isg) (av yv : Value) : Value := .agg #[.int .i64 i.w, av, .int .i64 i.b.s, .int .i64 i.b.u, .int .i64 i.b.v, yv]
@[reducible] def isgC (i : Isg) (av yv : Value) : List Value := [.int .i64 i.w, av, .int .i64 i.b.s, .int .i64 i.b.u, .int .i64 i.b.v, yv]
structure IsgR (w : World) (i : Isg) (av yv : Value) : Prop where
  wn : I64 i.w
  attrs : Ints w av i.attrs
  b : BldR w i.b yv
theorem IsgR.next {w1 : World} {c : Isg} {av yv : Value} (h : IsgR w c av yv) (hb : Below w.heap.size w w1) : IsgR w1 c av yv := ⟨h.wn, h.attrs.next hb, h.b.next hb⟩
def tissM (s : Stp) (x : Int) (i : Isg) : Ses × Tkt × Bool :=
  if 9 < i.attrs.length ∨ 9 < i.b.ys.length then (zX, zT, false)
  else if (proposeM s x i.attrs i.w).2 ≠ 0 ∨ (askM s (publicM s x) i.attrs (proposeM s x i.attrs i.w).1 i.b).2 ≠ 0 then (zX, zT, false)
  else (⟨i.attrs, (proposeM s x i.attrs i.w).1, (askM s (publicM s x) i.attrs (proposeM s x i.attrs i.w).1 i.b).1, grantM s x i.w (askM s (publicM s x) i.attrs (proposeM s x i.attrs i.w).1 i.b).1⟩,
    (finishM s (publicM s x) i.attrs (proposeM s x i.attrs i.w).1 i.b (grantM s x i.w (askM s (publicM s x) i.attrs (proposeM s x i.attrs i.w).1 i.b).1)).1,
    decide ((finishM s (publicM s x) i.attrs (proposeM s x i.attrs i.w).1 i.b (grantM s x i.w (askM s (publicM s x) i.attrs (proposeM s x i.attrs i.w).1 i.b).1)).2 = 0))
structure Res2 (w : World) (B g1 g2 : Nat) (a b : List Value) : Prop where
  lo : B ≤ g1 ∧ g1 < g2
  x : Holds w g1 41 a
  t : Holds w g2 43 b
theorem Res2.next {w1 : World} {B g1 g2 : Nat} {a b : List Value} (h : Res2 w B g1 g2 a b) (hb : Below w.heap.size w w1) : Res2 w1 B g1 g2 a b := ⟨h.lo, h.x.next hb, h.t.next hb⟩
abbrev Fr2 (g1 g2 : Nat) (w w' : World) : Prop := Fr (fun i => i = g1 ∨ i = g2) w w'
theorem store2 {B g1 g2 : Nat} {b c : List Value} {T2 T3 : TypeId} (x : Ses) (ad2 : Option Addr) (n2 c2 : Nat) (t : Tkt) (q : Bool) (hr : Res2 w B g1 g2 b c) (lb : b.length = 6) (lc : c.length = 6)
    (k : ∀ W, Fr2 g1 g2 w W → K (.tuple #[sesV x (.slice ad2 n2 c2), tktV t, .bool q]) W) :
    oM Tryz.prog (.store 41 (.tmp 0) (.tmp 1)) T2 [.pointer (some ⟨g1, 0, none⟩), sesV x (.slice ad2 n2 c2)] (fun _ w => oM Tryz.prog (.store 43 (.tmp 0) (.tmp 1)) T3 [.pointer (some ⟨g2, 0, none⟩), tktV t] (fun _ w =>
      ∃ r2, (do loadVar 41 (← asAddr (.pointer (some ⟨g1, 0, none⟩))) : Sem Value).run Tryz.prog w = .ok r2 w ∧ ∃ r3, (do loadVar 43 (← asAddr (.pointer (some ⟨g2, 0, none⟩))) : Sem Value).run Tryz.prog w = .ok r3 w ∧ K (.tuple #[r2, r3, .bool q]) w) w) w := by
  obtain ⟨h0, h1⟩ := hr.lo
  refine arr_store sz_ses rfl rfl (ses_one x ad2 n2 c2) hr.x lb (fun W2 hg2 hx => ?_)
  refine arr_store sz_tkt rfl rfl (tkt_one t) (hr.t.other hg2 (by omega)) lc (fun W3 hg3 ht => ?_)
  have hx := hx.other hg3 (by omega)
  refine ⟨sesV x (.slice ad2 n2 c2), by simp [go_sem, hx.are], tktV t, by simp [go_sem, ht.are], k _ ?_⟩
  have f0 : Fr2 g1 g2 w w := Fr.refl _ _
  exact (f0.by hg2 (fun i e => .inl (.inl (Option.some.inj e).symm))).by hg3 (fun i e => .inl (.inr (Option.some.inj e).symm))
theorem fr2_below {w1 W : World} {g1 g2 : Nat} (hb : Below w.heap.size w w1) (h : Fr2 g1 g2 w1 W) (h1 : w.heap.size ≤ g1) (h2 : g1 < g2) : Below w.heap.size w W :=
  ⟨h.os.trans hb.os, h.tape.trans hb.tape, h.output.trans hb.output, Nat.le_trans hb.size h.size, fun i hi => (h.block i (Nat.lt_of_lt_of_le hi hb.size) (fun e => by rcases e with rfl | rfl <;> omega)).trans (hb.block i hi)⟩
theorem ticketIssued_ok (s : Stp) (x : Int) (i : Isg) {v av yv : Value} (hx : I64 x) (hL : Cd.Laid w) (hs : SetR w s v) (hi : IsgR w i av yv)
    (k : ∀ W xv, Below w.heap.size w W → SesR W (tissM s x i).1 xv → TktR (tissM s x i).2.1 → K (.tuple #[sesV (tissM s x i).1 xv, tktV (tissM s x i).2.1, .bool (tissM s x i).2.2]) W) : callM Tryz.prog 12 #[stpV s v, .int .i64 x, isgV i av yv] K w := by
  apply sh_12_ok
  unfold sh_12
  have hs' := hs
  have hi' := hi
  obtain ⟨ad, c, rfl⟩ := hs.ints.isSlice
  obtain ⟨aad, ac, rfl⟩ := hi.attrs.isSlice
  obtain ⟨yad, yc, rfl⟩ := hi.b.ys.isSlice
  refine box_kn (cs := stpC s (.slice ad s.bases.length c)) rfl (.start w) fun b1 W1 hk hb1 hbb1 => ?_
  refine box_kn (cs := isgC i (.slice aad i.attrs.length ac) (.slice yad i.b.ys.length yc)) rfl hk fun b2 W2 hk hb2 hbb2 => ?_
  refine arr_alloc al_ses fun g1 w1 h1 hg1 hh1 => ?_
  refine arr_alloc al_tkt fun g2 w2 h2 hg2 hh2 => ?_
  have hr : Res2 w2 W2.heap.size g1 g2 _ _ := ⟨⟨hg1, Nat.lt_of_lt_of_le hh1.lt hg2⟩, hh1.next h2, hh2⟩
  have hwW := hk.below.size
  have hLl := cells_lt hk.cells
  have hk := (hk.next h1).next h2
  clear h1 h2 hh1 hh2 hb1 hb2
  have eT : tissM s x i = if 9 < i.attrs.length ∨ 9 < i.b.ys.length then (zX, zT, false)
    else if (proposeM s x i.attrs i.w).2 ≠ 0 ∨ (askM s (publicM s x) i.attrs (proposeM s x i.attrs i.w).1 i.b).2 ≠ 0 then (zX, zT, false)
    else (⟨i.attrs, (proposeM s x i.attrs i.w).1, (askM s (publicM s x) i.attrs (proposeM s x i.attrs i.w).1 i.b).1, grantM s x i.w (askM s (publicM s x) i.attrs (proposeM s x i.attrs i.w).1 i.b).1⟩,
      (finishM s (publicM s x) i.attrs (proposeM s x i.attrs i.w).1 i.b (grantM s x i.w (askM s (publicM s x) i.attrs (proposeM s x i.attrs i.w).1 i.b).1)).1,
      decide ((finishM s (publicM s x) i.attrs (proposeM s x i.attrs i.w).1 i.b (grantM s x i.w (askM s (publicM s x) i.attrs (proposeM s x i.attrs i.w).1 i.b).1)).2 = 0)) := rfl
  have hlo := hr.lo
  have bad : tissM s x i = (zX, zT, false) → ∀ (w7 : World), Below w.heap.size w w7 → ∀ W9, Fr2 g1 g2 w7 W9 → K (.tuple #[sesV zX (.slice none 0 0), tktV zT, .bool false]) W9 := fun e w7 hb W9 hf => by
    have hW := fr2_below hb hf (by omega) hlo.2
    have := k W9 (.slice none 0 0) hW
    rw [e] at this
    exact this zX_R zT_R
  by_cases h9 : (9 : Int) < i.attrs.length
  · rw [if_pos (.inl (by omega))] at eT
    repeat (any_goals (first
    | (with_reducible first|((refine idGd ?_); refine zD ?_)|((refine idPick ?_); refine yB ?_)|((refine idCond ?_); refine yL ?_))
    | ((with_reducible refine idO ?_); (with_reducible refine oM_gen fun Kv hK=>?_); simp [go_sem, hk.cells, h9]; refine hK _ _ ?_; clear hK; clear Kv)))
    exact store2 zX none 0 0 zT false hr rfl rfl (bad eT _ hk.below)
  by_cases h8 : (9 : Int) < i.b.ys.length
  · rw [if_pos (.inr (by omega))] at eT
    repeat (any_goals (first
    | (with_reducible first|((refine idGd ?_); refine zC ?_)|((refine idPick ?_); refine yC ?_)|((refine idCond ?_); refine yL ?_))
    | ((with_reducible refine idO ?_); (with_reducible refine oM_gen fun Kv hK=>?_); simp [go_sem, hk.cells, h9, h8]; refine hK _ _ ?_; clear hK; clear Kv)))
    exact store2 zX none 0 0 zT false hr rfl rfl (bad eT _ hk.below)
  rw [if_neg (by omega)] at eT
  repeat (any_goals (first
  | (with_reducible first|((refine idGd ?_); refine zC ?_)|((refine idPick ?_); refine yC ?_)|((refine idCond ?_); refine yM ?_))
  | ((with_reducible refine idO ?_); (with_reducible refine oM_gen fun Kv hK=>?_); simp [go_sem, hk.cells, h9, h8]; refine hK _ _ ?_; clear hK; clear Kv)))
  refine Public_ok s x hx (hs'.next hk.below) (fun w3 h3 => ?_)
  have hk := hk.next h3
  have hr := hr.next h3
  clear h3
  repeat (any_goals ((with_reducible refine idO ?_); (with_reducible refine oM_gen fun Kv hK=>?_); simp [go_sem, hk.cells]; refine hK _ _ ?_; clear hK; clear Kv))
  refine Propose_ok s x i.w hx hi'.wn (hs'.next hk.below) (hi'.attrs.next hk.below) (fun w3 h3 => ?_)
  have hk := hk.next h3
  have hr := hr.next h3
  clear h3
  have ho := propose_R s x i.attrs i.w
  have hkey : I64 (publicM s x) := publicM_I64 _ _
  generalize (proposeM s x i.attrs i.w).1 = o at *
  generalize (proposeM s x i.attrs i.w).2 = pe at *
  generalize publicM s x = key at *
  iterate 2 (any_goals ((with_reducible refine idO ?_); (with_reducible refine oM_gen fun Kv hK=>?_); simp [go_sem]; refine hK _ _ ?_; clear hK; clear Kv))
  have hg2o := hr.t.lt
  refine local_off o hk (fun b3 w8 hk h8 hb3 => ?_)
  have hr := hr.next h8
  clear h8
  repeat (any_goals ((with_reducible refine idO ?_); (with_reducible refine oM_gen fun Kv hK=>?_); simp [go_sem, hk.cells]; refine hK _ _ ?_; clear hK; clear Kv))
  refine Ask_ok s key o i.b hkey ho (hs'.next hk.below) (hi'.attrs.next hk.below) (hi'.b.next hk.below) (hL.below hk.below hL.size) (fun w3 h3 => ?_)
  have hk := hk.next h3
  have hr := hr.next h3
  clear h3
  have hn : I64 (askM s key i.attrs o i.b).1 := askM_I64 _ _ _ _ _
  generalize (askM s key i.attrs o i.b).1 = n at *
  generalize (askM s key i.attrs o i.b).2 = ae at *
  by_cases hpe : pe = 0
  rotate_left
  · rw [if_pos (.inl hpe)] at eT
    repeat (any_goals (first
    | (with_reducible first|((refine idGd ?_); refine zD ?_)|((refine idPick ?_); refine yB ?_)|((refine idCond ?_); refine yL ?_))
    | ((with_reducible refine idO ?_); (with_reducible refine oM_gen fun Kv hK=>?_); simp [go_sem, hk.cells, hpe]; refine hK _ _ ?_; clear hK; clear Kv)))
    exact store2 zX none 0 0 zT false hr rfl rfl (bad eT _ hk.below)
  by_cases hae : ae = 0
  rotate_left
  · rw [if_pos (.inr hae)] at eT
    repeat (any_goals (first
    | (with_reducible first|refine pureM_in ?_|((refine idGd ?_); refine zC ?_)|((refine idPick ?_); refine yC ?_)|((refine idCond ?_); refine yL ?_))
    | ((with_reducible refine idO ?_); (with_reducible refine oM_gen fun Kv hK=>?_); simp [go_sem, hk.cells, hpe, hae]; refine hK _ _ ?_; clear hK; clear Kv)))
    exact store2 zX none 0 0 zT false hr rfl rfl (bad eT _ hk.below)
  rw [if_neg (by simp [hpe, hae])] at eT
  clear bad
  repeat (any_goals (first
  | (with_reducible first|refine pureM_in ?_|((refine idGd ?_); refine zC ?_)|((refine idPick ?_); refine yC ?_)|((refine idCond ?_); refine yM ?_))
  | ((with_reducible refine idO ?_); (with_reducible refine oM_gen fun Kv hK=>?_); simp [go_sem, hk.cells, hpe, hae]; refine hK _ _ ?_; clear hK; clear Kv)))
  refine Grant_ok s x i.w n hx hi'.wn hn (hs'.next hk.below) (fun w3 h3 => ?_)
  have hk := hk.next h3
  have hr := hr.next h3
  clear h3
  have hgr : I64 (grantM s x i.w n) := grantM_I64 _ _ _ _
  generalize grantM s x i.w n = gr at *
  repeat (any_goals ((with_reducible refine idO ?_); (with_reducible refine oM_gen fun Kv hK=>?_); simp [go_sem, hk.cells]; refine hK _ _ ?_; clear hK; clear Kv))
  refine Finish_ok s key gr o i.b hkey hgr ho (hs'.next hk.below) (hi'.attrs.next hk.below) (hi'.b.next hk.below) (hL.below hk.below hL.size) (fun w3 h3 => ?_)
  have hk := hk.next h3
  have hr := hr.next h3
  clear h3
  have hlt : TktR (finishM s key i.attrs o i.b gr).1 := finish_R _ _ _ _ _ _
  generalize (finishM s key i.attrs o i.b gr).1 = t at *
  generalize (finishM s key i.attrs o i.b gr).2 = fe at *
  iterate 2 (any_goals ((with_reducible refine idO ?_); (with_reducible refine oM_gen fun Kv hK=>?_); simp [go_sem]; refine hK _ _ ?_; clear hK; clear Kv))
  have hg2l := hr.t.lt
  refine local_tkt t hk (fun b4 w9 hk h9 hb4 => ?_)
  have hr := hr.next (h9.on .drawn)
  have hk := hk.drew
  have hLb : ∀ p ∈ cellsOf (cellsOf (cellsOf (cellsOf [] b1 0 (stpC s (.slice ad s.bases.length c))) b2 0 (isgC i (.slice aad i.attrs.length ac) (.slice yad i.b.ys.length yc))) b3 0 [.int .i64 o.z, .int .i64 o.a, .int .i64 o.b]) b4 0 (tktC t), p.1.block < ({ w9 with drawn := w9.drawn + 1 } : World).heap.size ∧ ¬ (p.1.block = g1 ∨ p.1.block = g2) := fun p hp => by
    refine ⟨cells_lt hk.cells p hp, ?_⟩
    rcases cellsOf_mem _ _ _ hp with h | hp
    · omega
    rcases cellsOf_mem _ _ _ hp with h | hp
    · omega
    · have := hLl p hp; omega
  refine ⟨Fr2 g1 g2 { w9 with drawn := w9.drawn + 1 }, Fr.refl _ _, ?_⟩
  generalize ({ w9 with drawn := w9.drawn + 1 } : World) = W at hr hk hLb ⊢
  repeat (any_goals (first
  | (with_reducible refine pureH_in ?_)
  | ((with_reducible refine idOH ?_); (with_reducible refine oH_of ⟨_, rfl⟩ (fun W0 hW0 => by (refine oM_gen (fun Kv hK => ?_)); simp [go_sem, (cells_fr hk.cells hW0 hLb)]; (first | exact hK _ _ ⟨rfl, rfl⟩ | exact ⟨by omega, hK _ _ ⟨rfl, rfl⟩⟩)) ?_))
  | ((with_reducible refine idO ?_); (with_reducible refine oM_gen fun Kv hK=>?_); simp [go_sem]; refine hK _ _ ?_; clear hK; clear Kv)))
  obtain ⟨h0, h1⟩ := hr.lo
  have f0 : Fr2 g1 g2 W W := Fr.refl _ _
  refine ⟨f0, ?_⟩
  refine arr_store (xs := sesC ⟨[], o, n, gr⟩ (.slice aad i.attrs.length ac)) sz_ses rfl rfl (ses_one ⟨[], o, n, gr⟩ aad i.attrs.length ac) hr.x rfl (fun W2 hg2 hx => ?_)
  have f0 := f0.by hg2 (fun i e => .inl (.inl (Option.some.inj e).symm))
  refine ⟨f0, ?_⟩
  refine arr_store (xs := tktC t) sz_tkt rfl rfl (tkt_one t) (hr.t.other hg2 (by omega)) rfl (fun W3 hg3 ht => ?_)
  have f0 := f0.by hg3 (fun i e => .inl (.inr (Option.some.inj e).symm))
  have hx := hx.other hg3 (by omega)
  refine ⟨f0, f0, sesV ⟨[], o, n, gr⟩ (.slice aad i.attrs.length ac), by simp [go_sem, hx.are], tktV t, by simp [go_sem, ht.are], ?_⟩
  have hW := fr2_below hk.below f0 (by omega) h1
  have := k W3 (.slice aad i.attrs.length ac) hW
  rw [eT] at this
  exact this ⟨hi'.attrs.next hW, ho, hn, hgr⟩ hlt
end
end Go.Proofs
namespace Go.Proofs
open Go Go.Sh Go.RowKit FdSpec TkSpec CodeSpec
set_option linter.unusedSimpArgs false
set_option linter.unusedVariables false
set_option maxRecDepth 10000
section
variable {K : Value → World → Prop} {w w0 : World} {L : List (Addr × Value)}
def hitM (s : Stp) (l : List Int) (b : Bld) (dare : Int) (t : Tkt) (p : Spd) (y : Tkt) (f : Int) : Bool := decide (f = 0) && decide (y = t) && (useM s l b dare).2 && (decide ((useM s l b dare).1.dare = p.dare) && decide ((useM s l b dare).1.answers = p.answers))
theorem th_end (s : Stp) (ad : Option Addr) (n c : Nat) (b : Bld) (bad : Option Addr) (bn bc : Nat) (t y : Tkt) (p : Spd) (pad : Option Addr) (pn pc : Nat) {l : List Int} (lv : Value) (dare f many : Int) {gs gb gy gt gp : Nat} {u1 u2 : Value} (M : List Value → World → Prop)
    (hd : I64 dare) (hm : -1000 < many ∧ many < 1000) (hl : Ints w lv l) (hs : SetR w s (.slice ad n c)) (hb : BldR w b (.slice bad bn bc)) (hp : SpdR w p (.slice pad pn pc))
    (hc : cellsAre w (cellsOf (cellsOf (cellsOf (cellsOf (cellsOf [] gs 0 (stpC s (.slice ad n c))) gb 0 (bldC b (.slice bad bn bc))) gy 0 (tktC y)) gt 0 (tktC t)) gp 0 (spdC p (.slice pad pn pc))))
    (k : ∀ W v3 v4, Below w.heap.size w W → M [u1, u2, v3, v4, .int .i64 (if hitM s l b dare t p y f then many + 1 else many)] W) :
    oM Tryz.prog (Go.Op.load 35 (.tmp 0)) 35 [.pointer (some ⟨gs, 0, none⟩)] (fun v208_181 w =>
 oM Tryz.prog (Go.Op.load 28 (.tmp 0)) 28 [.pointer (some ⟨gb, 0, none⟩)] (fun v210_182 w =>
 callM Tryz.prog 13 #[v208_181, lv, v210_182, .int .i64 dare] (fun v212_183 w =>
 oM Tryz.prog (Go.Op.extract (.tmp 0) 0) 47 [v212_183] (fun v213_184 w =>
 oM Tryz.prog (Go.Op.extract (.tmp 0) 1) 4 [v212_183] (fun v214_185 w =>
 oM Tryz.prog (Go.Op.alloc 47) 0 [] (fun v36_186 w =>
 oM Tryz.prog (Go.Op.store 47 (.tmp 0) (.tmp 1)) 0 [v36_186, v213_184] (fun _ w =>
 oM Tryz.prog (Go.Op.binOp Go.BinOp.eql 50 (.tmp 0) (.const (.int .i64 0)) 50) 4 [.int .i64 f] (fun v216_187 w =>
 gdM (gd v216_187 true) (oM Tryz.prog (Go.Op.load 43 (.tmp 0)) 43 [.pointer (some ⟨gy, 0, none⟩)]) (fun v218_188 w =>
 gdM (gd v216_187 true) (oM Tryz.prog (Go.Op.load 43 (.tmp 0)) 43 [.pointer (some ⟨gt, 0, none⟩)]) (fun v219_189 w =>
 gdM (gd v216_187 true) (oM Tryz.prog (Go.Op.binOp Go.BinOp.eql 43 (.tmp 0) (.tmp 1) 43) 4 [v218_188, v219_189]) (fun v220_190 w =>
 oM Tryz.prog (Go.Op.pick (.tmp 0) (.tmp 1) (.tmp 2)) 4 [v216_187, v220_190, (.bool false)] (fun v221_191 w =>
 gdM (gd v221_191 true) (pureM v214_185) (fun v223_192 w =>
 oM Tryz.prog (Go.Op.pick (.tmp 0) (.tmp 1) (.tmp 2)) 4 [v221_191, v223_192, (.bool false)] (fun v224_193 w =>
 gdM (gd v224_193 true) (oM Tryz.prog (Go.Op.load 47 (.tmp 0)) 47 [v36_186]) (fun v226_194 w =>
 gdM (gd v224_193 true) (oM Tryz.prog (Go.Op.load 47 (.tmp 0)) 47 [.pointer (some ⟨gp, 0, none⟩)]) (fun v227_195 w =>
 gdM (gd v224_193 true) (callM Tryz.prog 21 #[v226_194, v227_195]) (fun v228_196 w =>
 oM Tryz.prog (Go.Op.pick (.tmp 0) (.tmp 1) (.tmp 2)) 4 [v224_193, v228_196, (.bool false)] (fun v229_197 w =>
 condM v229_197
 (oM Tryz.prog (Go.Op.binOp Go.BinOp.add 3 (.tmp 0) (.tmp 1) 3) 3 [.int .i64 many, (.int .i64 1)] (fun v231_198 w =>
 M [u1, u2, .int .i64 f, v214_185, v231_198] w) w)
 (M [u1, u2, .int .i64 f, v214_185, .int .i64 many] w)) w) w) w) w) w) w) w) w) w) w) w) w) w) w) w) w) w) w := by
  have hk : Kn w _ w := ⟨Below.refl _ _, hc⟩
  obtain ⟨lad, lc, rfl⟩ := hl.isSlice
  repeat (any_goals ((with_reducible refine idO ?_); (with_reducible refine oM_gen fun Kv hK=>?_); simp [go_sem, hk.cells]; refine hK _ _ ?_; clear hK; clear Kv))
  refine Use_ok s b dare hd hs hl hb (fun w4 uv h4 hu => ?_)
  have hk := hk.next h4
  clear h4
  have hUD : I64 (useM s l b dare).1.dare := by
    unfold useM
    split
    · exact hd
    · constructor <;> decide
  have eH : hitM s l b dare t p y f = (decide (f = 0) && decide (y = t) && (useM s l b dare).2 && (decide ((useM s l b dare).1.dare = p.dare) && decide ((useM s l b dare).1.answers = p.answers))) := rfl
  generalize (useM s l b dare).1 = z at *
  generalize (useM s l b dare).2 = ok at *
  obtain ⟨uad, uc, rfl⟩ := hu.isSlice
  iterate 2 (any_goals ((with_reducible refine idO ?_); (with_reducible refine oM_gen fun Kv hK=>?_); simp [go_sem]; refine hK _ _ ?_; clear hK; clear Kv))
  refine local_spdK z uad z.answers.length uc hk (fun g2 W7 hk h7 hg2 => ?_)
  have hu := hu.next h7
  clear h7
  have hno : hitM s l b dare t p y f = false → ∀ W v3 v4, Below w.heap.size w W → M [u1, u2, v3, v4, .int .i64 many] W := fun h W v3 v4 hb => by
    have := k W v3 v4 hb
    rw [h, if_neg (by decide)] at this
    exact this
  by_cases h3 : f = 0
  rotate_left
  · rw [decide_eq_false h3, Bool.false_and, Bool.false_and, Bool.false_and] at eH
    repeat (any_goals (first
    | (with_reducible first|((refine idGd ?_); refine zB ?_)|((refine idPick ?_); refine yC ?_)|((refine idCond ?_); refine yM ?_))
    | ((with_reducible refine idO ?_); (with_reducible refine oM_gen fun Kv hK=>?_); simp [go_sem, hk.cells, h3]; refine hK _ _ ?_; clear hK; clear Kv)))
    exact hno eH _ _ _ hk.below
  rw [decide_eq_true h3, Bool.true_and] at eH
  by_cases h4 : y = t
  rotate_left
  · rw [decide_eq_false h4, Bool.false_and, Bool.false_and] at eH
    have e4 := decide_eq_false h4
    repeat (any_goals (first
    | (with_reducible first|((refine idGd ?_); first|refine zA ?_|refine zB ?_)|((refine idPick ?_); first|refine yB ?_|refine yC ?_)|((refine idCond ?_); refine yM ?_))
    | ((with_reducible refine idO ?_); (with_reducible refine oM_gen fun Kv hK=>?_); simp [go_sem, hk.cells, h3, e4]; refine hK _ _ ?_; clear hK; clear Kv)))
    exact hno eH _ _ _ hk.below
  rw [decide_eq_true h4, Bool.true_and] at eH
  have e4 := decide_eq_true h4
  cases ok with
  | false =>
    rw [Bool.false_and] at eH
    repeat (any_goals (first
    | (with_reducible first|refine pureM_in ?_|((refine idGd ?_); first|refine zA ?_|refine zB ?_)|((refine idPick ?_); first|refine yB ?_|refine yC ?_)|((refine idCond ?_); refine yM ?_))
    | ((with_reducible refine idO ?_); (with_reducible refine oM_gen fun Kv hK=>?_); simp [go_sem, hk.cells, h3, e4]; refine hK _ _ ?_; clear hK; clear Kv)))
    exact hno eH _ _ _ hk.below
  | true =>
  rw [Bool.true_and] at eH
  repeat (any_goals (first
  | (with_reducible first|refine pureM_in ?_|((refine idGd ?_); refine zA ?_)|((refine idPick ?_); refine yB ?_))
  | ((with_reducible refine idO ?_); (with_reducible refine oM_gen fun Kv hK=>?_); simp [go_sem, hk.cells, h3, e4]; refine hK _ _ ?_; clear hK; clear Kv)))
  refine SameSpend_ok z p ⟨hUD, hu⟩ ⟨hp.dare, hp.answers.next hk.below⟩ (fun w5 h5 => ?_)
  rw [← eH]
  have hk := hk.next h5
  cases hh : hitM s l b dare t p y f with
  | false =>
    repeat (any_goals (with_reducible first|((refine idPick ?_); refine yB ?_)|((refine idCond ?_); refine yM ?_)))
    exact hno hh _ _ _ hk.below
  | true =>
    repeat (any_goals (first
    | (with_reducible first|((refine idPick ?_); refine yB ?_)|((refine idCond ?_); refine yL ?_))
    | ((with_reducible refine idO ?_); (with_reducible refine oM_gen fun Kv hK=>?_); simp [go_sem, hk.cells]; (try simp (disch := omega) only [wrapI64, wrapU8, wrapU32, wrapU64]); refine hK _ _ ?_; clear hK; clear Kv)))
    have := k w5 (.int .i64 f) (.bool true) hk.below
    rw [hh, if_pos rfl] at this
    exact this
end
end Go.Proofs
namespace Go.Proofs
open Go Go.Sh Go.RowKit FdSpec TkSpec CodeSpec
set_option linter.unusedSimpArgs false
set_option linter.unusedVariables false
set_option maxRecDepth 10000
theorem holders_plain {c : Isu} {i : Isg} {dare w n : Int} {attrs : List Int} (hs : (tsetM c).2 = true) (hq : c.q ≤ 200) (hi : (tissM (tsetM c).1 c.x i).2.2 = true) (hu : (useM (tsetM c).1 i.attrs i.b dare).2 = true) (hp : (proposeM (tsetM c).1 c.x attrs w).2 = 0) (hn : 1 ≤ n ∧ n < c.q) :
    5 ≤ c.q ∧ (tsetM c).1.g.Q = c.q ∧ okN c.q ∧ ∃ tg : Option (Int × Int × Int), (∃ i0 k0 j0, tg = some (i0, k0, j0) ∧ (1 ≤ i0 ∧ i0 < c.q) ∧ (1 ≤ k0 ∧ k0 < c.q) ∧ 0 ≤ j0 ∧ j0 < c.q) ∧
      ∀ a k j : Int, 1 ≤ a → a < c.q → 1 ≤ k → k < c.q → 0 ≤ j → j < c.q →
        obtainsM (tsetM c).1 (publicM (tsetM c).1 c.x) ⟨attrs, (proposeM (tsetM c).1 c.x attrs w).1, n, grantM (tsetM c).1 c.x w n⟩ ⟨a, k, j, answersM (tsetM c).1 attrs a (useM (tsetM c).1 i.attrs i.b dare).1⟩ (tissM (tsetM c).1 c.x i).2.1 (useM (tsetM c).1 i.attrs i.b dare).1 = decide (tg = some (a, k, j)) := by
  have hmf : ∃ m : Nat, m ∈ ordL ∧ c.q = m ∧ (tsetM c).1.g = grp m ∧ (tsetM c).1.bases = c.m.bases.map (E m) := by
    unfold tsetM at hs ⊢
    split at hs
    · rename_i h1
      rw [if_pos h1]
      simp only [Bool.and_eq_true] at h1
      exact made_facts h1.1 hs hq
    · cases hs
  obtain ⟨m, hm, eq, eg, eb⟩ := hmf
  have h5 := (ok_of hm).five
  have hQ : (tsetM c).1.g.Q = c.q := by rw [eg, eq]; rfl
  generalize (tsetM c).1 = s at *
  unfold tissM at hi ⊢
  split at hi
  · cases hi
  rename_i c1
  rw [if_neg c1]
  split at hi
  · cases hi
  rename_i c2
  rw [if_neg c2]
  have hp0 : (proposeM s c.x i.attrs i.w).2 = 0 := Classical.not_not.1 (fun e => c2 (.inl e))
  obtain ⟨tg, t1, _, t3⟩ := hits_of hm eg eb hp0 (of_decide_eq_true hi) hu hp (by rw [← eq]; exact hn)
  rw [eq]
  exact ⟨by omega, by rw [← eq]; exact hQ, (ok_of hm).q, tg, t1 rfl, t3⟩
theorem ys_two {s : Stp} {q h a : Int} {p : Spd} (hQ : s.g.Q = q) (hq : okN q) {x0 x1 : Int} (hx : p.answers = [x0, x1]) : answersM s [h] a p = [subM q x0 (mulM q p.dare a), subM q x1 (mulM q p.dare (mulM q a h))] := by
  have hs : ∀ x y z : Int, y % q = z % q → subM q x y = subM q x z := fun x y z e => by
    unfold subM
    rw [if_pos hq, if_pos hq, Int.sub_emod, e, ← Int.sub_emod]
  have hm : ∀ x y : Int, mulM q x y % q = x * y % q := fun x y => by unfold mulM; rw [if_pos hq, Int.emod_emod]
  unfold answersM expsM
  rw [hx, hQ]
  show [subM q x0 (mulM q (mulM q p.dare a) 1), subM q x1 (mulM q (mulM q p.dare a) h)] = _
  rw [hs x0 (mulM q (mulM q p.dare a) 1) (mulM q p.dare a) (by rw [hm, Int.mul_one]), hs x1 (mulM q (mulM q p.dare a) h) (mulM q p.dare (mulM q a h)) (by
    rw [hm, hm, Int.mul_emod, hm, ← Int.mul_emod, Int.mul_emod p.dare (mulM q a h), hm, ← Int.mul_emod, Int.mul_assoc])]
section
variable {K : Value → World → Prop} {w w0 : World} {L : List (Addr × Value)}
def mu10 (q : Int) : List Value → World → Nat
  | [_, _, _, _, _, _, _, _, _, .int _ i], _ => (q - i).toNat
  | _, _ => 0
def mu7 (q : Int) : List Value → World → Nat
  | [_, _, _, _, _, _, .int _ i], _ => (q - i).toNat
  | _, _ => 0
def mu6 (q : Int) : List Value → World → Nat
  | [_, _, _, _, _, .int _ i], _ => (q - i).toNat
  | _, _ => 0
theorem mu10_eq (q : Int) (a b c d e f g h i : Value) (k : IntKind) (j : Int) (w : World) : mu10 q [a, b, c, d, e, f, g, h, i, .int k j] w = (q - j).toNat := rfl
theorem mu7_eq (q : Int) (a b c d e f : Value) (k : IntKind) (j : Int) (w : World) : mu7 q [a, b, c, d, e, f, .int k j] w = (q - j).toNat := rfl
theorem mu6_eq (q : Int) (a b c d e : Value) (k : IntKind) (j : Int) (w : World) : mu6 q [a, b, c, d, e, .int k j] w = (q - j).toNat := rfl
def ThJ (w0 : World) (L : List (Addr × Value)) (q : Int) (tg : Option (Int × Int × Int)) (vs : List Value) (w' : World) : Prop := Kn w0 L w' ∧ ∃ (a b c d e f g h : Value) (i : Int), vs = [a, b, c, d, e, f, g, h, .int .i64 (cntT tg i 1 0), .int .i64 i] ∧ 1 ≤ i ∧ i ≤ q
def BlY (w' : World) (gb B : Nat) (a : Int) (ys : List Int) : Prop := ∃ yv, Holds w' gb 28 [.int .i64 a, .int .i64 0, .int .i64 0, yv] ∧ OwnI w' B yv ys ∧ yv.ownBlock ≠ some gb
def BlU (w' : World) (gb : Nat) (a : Int) (ys : List Int) : Prop := ∃ (U V : Int) (yv : Value), Holds w' gb 28 [.int .i64 a, .int .i64 U, .int .i64 V, yv] ∧ I64 U ∧ I64 V ∧ Ints w' yv ys ∧ Value.inBlock yv ≠ some gb
def ThY (w0 : World) (L : List (Addr × Value)) (gb B : Nat) (a : Int) (ys : List Int) (vs : List Value) (w' : World) : Prop := Kn w0 L w' ∧ ∃ (u : Value) (k : Nat), vs = [u, .int .i64 (k : Int)] ∧ k ≤ 2 ∧ BlY w' gb B a (ys.take k)
def ThP (w0 : World) (L : List (Addr × Value)) (gb B : Nat) (a : Int) (ys : List Int) (pw : Int) (vs : List Value) (w' : World) : Prop := Kn w0 L w' ∧ vs = [.int .i64 pw] ∧ BlY w' gb B a ys
def ThU (w0 : World) (L : List (Addr × Value)) (q : Int) (tg : Option (Int × Int × Int)) (gb : Nat) (i : Int) (ys : List Int) (vs : List Value) (w' : World) : Prop := Kn w0 L w' ∧ BlU w' gb i ys ∧ ∃ (a b c d e : Value) (k : Int), vs = [a, b, c, d, e, .int .i64 (cntT tg i k 0), .int .i64 k] ∧ 1 ≤ k ∧ k ≤ q
def ThV (w0 : World) (L : List (Addr × Value)) (q : Int) (tg : Option (Int × Int × Int)) (gb : Nat) (i k : Int) (ys : List Int) (vs : List Value) (w' : World) : Prop := Kn w0 L w' ∧ BlU w' gb i ys ∧ ∃ (a b c d : Value) (j : Int), vs = [a, b, c, d, .int .i64 (cntT tg i k j), .int .i64 j] ∧ 0 ≤ j ∧ j ≤ q
def ThM (w0 : World) (L : List (Addr × Value)) (tg : Option (Int × Int × Int)) (gb : Nat) (i k j : Int) (ys : List Int) (vs : List Value) (w' : World) : Prop := Kn w0 L w' ∧ BlU w' gb i ys ∧ ∃ (a b c d : Value), vs = [a, b, c, d, .int .i64 (cntT tg i k (j + 1))]
abbrev ThJk {w0 w' : World} {L : List (Addr × Value)} (_ : Kn w0 L w') (q : Int) (tg : Option (Int × Int × Int)) := ThJ w0 L q tg
abbrev ThYk {w0 w' : World} {L : List (Addr × Value)} (_ : Kn w0 L w') (gb B : Nat) (a : Int) (ys : List Int) := ThY w0 L gb B a ys
abbrev ThPk {w0 w' : World} {L : List (Addr × Value)} (_ : Kn w0 L w') (gb B : Nat) (a : Int) (ys : List Int) (pw : Int) := ThP w0 L gb B a ys pw
abbrev ThUk {w0 w' : World} {L : List (Addr × Value)} (_ : Kn w0 L w') (q : Int) (tg : Option (Int × Int × Int)) (gb : Nat) (i : Int) (ys : List Int) := ThU w0 L q tg gb i ys
abbrev ThVk {w0 w' : World} {L : List (Addr × Value)} (_ : Kn w0 L w') (q : Int) (tg : Option (Int × Int × Int)) (gb : Nat) (i k : Int) (ys : List Int) := ThV w0 L q tg gb i k ys
abbrev ThMk {w0 w' : World} {L : List (Addr × Value)} (_ : Kn w0 L w') (tg : Option (Int × Int × Int)) (gb : Nat) (i k j : Int) (ys : List Int) := ThM w0 L tg gb i k j ys
theorem own_in {B : Nat} {v : Value} {l : List Int} (h : OwnI w B v l) {i : Nat} (e : Value.inBlock v = some i) : v.ownBlock = some i := by
  rcases h.2 with ⟨rfl, _⟩ | ⟨g, cap, cur, rfl, _⟩
  · cases e
  · exact e
theorem build_bld1 (T : TypeId) (x : Int) : oM Tryz.prog (Go.Op.build 28 #[(0, (.tmp 0))]) T [.int .i64 x] = pureM (bldV ⟨x, 0, 0, []⟩ (.slice none 0 0)) := by
  funext K w
  kernel_rfl
theorem local2 {K : Value → Value → World → Prop} {T2 T3 T5 T6 : TypeId} (x : Ses) (ad2 : Option Addr) (n2 c2 : Nat) (t : Tkt) (hk : Kn w0 L w)
    (k : ∀ g2 g3 W, Kn w0 (cellsOf (cellsOf L g2 0 (sesC x (.slice ad2 n2 c2))) g3 0 (tktC t)) W → Below w.heap.size w W → K (ptr g2 0) (ptr g3 0) W) :
    oM Tryz.prog (.alloc 41) T2 [] (fun v2 w => oM Tryz.prog (.alloc 43) T3 [] (fun v3 w =>
      oM Tryz.prog (.store 41 (.tmp 0) (.tmp 1)) T5 [v2, sesV x (.slice ad2 n2 c2)] (fun _ w => oM Tryz.prog (.store 43 (.tmp 0) (.tmp 1)) T6 [v3, tktV t] (fun _ w => K v2 v3 w) w) w) w) w := by
  refine arr_alloc al_ses fun g2 w2 h2 hg2 hh2 => ?_
  refine arr_alloc al_tkt fun g3 w3 h3 hg3 hh3 => ?_
  have l2 := hh2.lt
  have hb := h2.on h3
  have hh2 := hh2.next h3
  have s2 := h2.size
  have s3 := h3.size
  refine arr_store sz_ses rfl rfl (ses_one x ad2 n2 c2) hh2 rfl (fun W2 hq2 hh2 => ?_)
  have hb := grown_below hb hq2 (by omega)
  refine arr_store sz_tkt rfl rfl (tkt_one t) (hh3.other hq2 (by omega)) rfl (fun W3 hq3 hh3 => ?_)
  have hb := grown_below hb hq3 (by omega)
  have hh2 := hh2.other hq3 (by omega)
  have hk := hk.next hb
  refine k g2 g3 W3 ⟨hk.below, ?_⟩ hb
  have A := fun {vs : List Value} {g : Nat} {T : TypeId} {L : List (Addr × Value)} (h : Holds W3 g T vs) (hL : cellsAre W3 L) => cellsOf_are (xs := vs) hL (fun i v hi => by
    obtain ⟨hl, rfl⟩ := List.getElem?_eq_some_iff.1 hi
    exact h.cell i hl) vs 0 rfl
  exact A hh3 (A hh2 hk.cells)
theorem use_two {s : Stp} {l : List Int} {b : Bld} {dare : Int} (h : (useM s l b dare).2 = true) (h2 : s.bases.length = 2) : ∃ x0 x1, (useM s l b dare).1 = ⟨dare, [x0, x1]⟩ := by
  obtain ⟨u1, u2, u3⟩ := use_facts h
  have hy := blinds_len u2
  have hl := (usable_len u1).1
  rw [useM_yes u1 u2 u3]
  have : (ansL s l b dare).length = 2 := by
    unfold ansL
    rw [List.length_map, List.length_zip]
    show min (l.length + 1) _ = 2
    omega
  match ansL s l b dare, this with
  | [x0, x1], _ => exact ⟨x0, x1, rfl⟩
set_option maxHeartbeats 1600000 in
theorem holders_law (c : Isu) (i : Isg) (dare w' n h : Int) {mv av yv : Value} (hd : I64 dare) (hw : I64 w') (hn : I64 n) (hh : 0 ≤ h ∧ h < 256) (hT : DbT w) (hL : Cd.Laid w) (hc : IsuR w c mv) (hi : IsgR w i av yv) (k : ∀ w', Below w.heap.size w w' → K (.bool true) w') :
    callM Tryz.prog 3 #[isuV c mv, isgV i av yv, .int .i64 dare, .int .i64 w', .int .i64 n, .int .u8 h] K w := by
  apply sh_3_ok
  unfold sh_3
  have hc' := hc
  have hi' := hi
  obtain ⟨mad, mc, rfl⟩ := hc.m.ints.isSlice
  obtain ⟨aad, ac, rfl⟩ := hi.attrs.isSlice
  obtain ⟨yad, yc, rfl⟩ := hi.b.ys.isSlice
  refine box_kn (cs := isuC c (.slice mad c.m.bases.length mc)) rfl (.start w) fun b1 W1 hk hb1 hbb1 => ?_
  refine box_kn (cs := isgC i (.slice aad i.attrs.length ac) (.slice yad i.b.ys.length yc)) rfl hk fun b2 W2 hk hb2 hbb2 => ?_
  clear hb1 hb2
  refine saneT_ok (hT.next hk.below) (fun w1 h => ?_)
  have hk := hk.next h
  clear h
  repeat (any_goals ((with_reducible refine idO ?_); (with_reducible refine oM_gen fun Kv hK=>?_); simp [go_sem, hk.cells]; refine hK _ _ ?_; clear hK; clear Kv))
  refine ticketSetup_ok c (hT.next hk.below) (hc'.next hk.below) (fun w2 sv h2 hs => ?_)
  have hk := hk.next h2
  clear h2
  have hfac := holders_plain (c := c) (i := i) (dare := dare) (w := w') (n := n) (attrs := [h])
  generalize (tsetM c).1 = s at *
  generalize (tsetM c).2 = ok at *
  obtain ⟨sad, sc, rfl⟩ := hs.ints.isSlice
  iterate 2 (any_goals ((with_reducible refine idO ?_); (with_reducible refine oM_gen fun Kv hK=>?_); simp [go_sem]; refine hK _ _ ?_; clear hK; clear Kv))
  refine local_stp s sad s.bases.length sc hk (fun g1 w3 hk h3 hg1 => ?_)
  have hs := hs.next h3
  clear h3
  cases ok with
  | false =>
    repeat (any_goals (first
    | (with_reducible first|((refine idGd ?_); refine zD ?_)|((refine idPick ?_); refine yB ?_)|((refine idCond ?_); refine yL ?_))
    | ((with_reducible refine idO ?_); (with_reducible refine oM_gen fun Kv hK=>?_); simp [go_sem, hk.cells]; refine hK _ _ ?_; clear hK; clear Kv)))
    exact k _ hk.below
  | true =>
  by_cases hq : (11 : Int) < c.q
  · repeat (any_goals (first
    | (with_reducible first|((refine idGd ?_); first|refine zC ?_|refine zD ?_)|((refine idPick ?_); first|refine yB ?_|refine yC ?_)|((refine idCond ?_); refine yL ?_))
    | ((with_reducible refine idO ?_); (with_reducible refine oM_gen fun Kv hK=>?_); simp [go_sem, hk.cells, hq]; refine hK _ _ ?_; clear hK; clear Kv)))
    exact k _ hk.below
  by_cases h2 : (s.bases.length : Int) = 2
  rotate_left
  · repeat (any_goals (first
    | (with_reducible first|((refine idGd ?_); refine zC ?_)|((refine idPick ?_); refine yC ?_)|((refine idCond ?_); refine yL ?_))
    | ((with_reducible refine idO ?_); (with_reducible refine oM_gen fun Kv hK=>?_); simp [go_sem, hk.cells, hq, h2]; refine hK _ _ ?_; clear hK; clear Kv)))
    exact k _ hk.below
  repeat (any_goals (first
  | (with_reducible first|((refine idGd ?_); refine zC ?_)|((refine idPick ?_); refine yC ?_)|((refine idCond ?_); refine yM ?_))
  | ((with_reducible refine idO ?_); (with_reducible refine oM_gen fun Kv hK=>?_); simp [go_sem, hk.cells, hq, h2]; refine hK _ _ ?_; clear hK; clear Kv)))
  refine ticketIssued_ok s c.x i hc'.x (hL.below hk.below hL.size) (hs.next (Below.refl _ _)) (hi'.next hk.below) (fun w4 xv h4 hx4 ht => ?_)
  have hk := hk.next h4
  have hs := hs.next h4
  clear h4
  generalize (tissM s c.x i).1 = se at *
  generalize hTI : (tissM s c.x i).2 = ti at *
  obtain ⟨t, is⟩ := ti
  dsimp only at ht hfac ⊢
  obtain ⟨xad, xc, rfl⟩ := hx4.attrs.isSlice
  iterate 3 (any_goals ((with_reducible refine idO ?_); (with_reducible refine oM_gen fun Kv hK=>?_); simp [go_sem]; refine hK _ _ ?_; clear hK; clear Kv))
  refine local2 se xad se.attrs.length xc t hk (fun g2 g3 w5 hk h5 => ?_)
  have hs := hs.next h5
  clear h5 hx4
  repeat (any_goals ((with_reducible refine idO ?_); (with_reducible refine oM_gen fun Kv hK=>?_); simp [go_sem, hk.cells]; refine hK _ _ ?_; clear hK; clear Kv))
  refine Use_ok s i.b dare hd (hs.next (Below.refl _ _)) (hi'.attrs.next hk.below) (hi'.b.next hk.below) (fun w6 uv h6 hu => ?_)
  have hk := hk.next h6
  have hs := hs.next h6
  clear h6
  have htwo := use_two (s := s) (l := i.attrs) (b := i.b) (dare := dare)
  have hUD : I64 (useM s i.attrs i.b dare).1.dare := by
    unfold useM
    split
    · exact hd
    · constructor <;> decide
  obtain ⟨uad, uc, rfl⟩ := hu.isSlice
  generalize hU : useM s i.attrs i.b dare = U at *
  obtain ⟨u, can⟩ := U
  dsimp only at hu hUD hfac htwo ⊢
  iterate 2 (any_goals ((with_reducible refine idO ?_); (with_reducible refine oM_gen fun Kv hK=>?_); simp [go_sem]; refine hK _ _ ?_; clear hK; clear Kv))
  refine local_spdK u uad u.answers.length uc hk (fun g4 w7 hk h7 hg4 => ?_)
  have hs := hs.next h7
  have hu := hu.next h7
  clear h7
  cases is with
  | false =>
    repeat (any_goals (first
    | (with_reducible first|((refine idGd ?_); refine zD ?_)|((refine idPick ?_); refine yB ?_)|((refine idCond ?_); refine yL ?_))
    | ((with_reducible refine idO ?_); (with_reducible refine oM_gen fun Kv hK=>?_); simp [go_sem, hk.cells]; refine hK _ _ ?_; clear hK; clear Kv)))
    exact k _ hk.below
  | true =>
  cases can with
  | false =>
    repeat (any_goals (first
    | (with_reducible first|refine pureM_in ?_|((refine idGd ?_); first|refine zC ?_|refine zD ?_)|((refine idPick ?_); first|refine yB ?_|refine yC ?_)|((refine idCond ?_); refine yL ?_))
    | ((with_reducible refine idO ?_); (with_reducible refine oM_gen fun Kv hK=>?_); simp [go_sem, hk.cells]; refine hK _ _ ?_; clear hK; clear Kv)))
    exact k _ hk.below
  | true =>
  by_cases hn1 : n < 1
  · repeat (any_goals (first
    | (with_reducible first|refine pureM_in ?_|((refine idGd ?_); first|refine zC ?_|refine zD ?_)|((refine idPick ?_); first|refine yB ?_|refine yC ?_)|((refine idCond ?_); refine yL ?_))
    | ((with_reducible refine idO ?_); (with_reducible refine oM_gen fun Kv hK=>?_); simp [go_sem, hk.cells, hn1]; refine hK _ _ ?_; clear hK; clear Kv)))
    exact k _ hk.below
  by_cases hn2 : c.q ≤ n
  · repeat (any_goals (first
    | (with_reducible first|refine pureM_in ?_|((refine idGd ?_); refine zC ?_)|((refine idPick ?_); refine yC ?_)|((refine idCond ?_); refine yL ?_))
    | ((with_reducible refine idO ?_); (with_reducible refine oM_gen fun Kv hK=>?_); simp [go_sem, hk.cells, hn1, hn2]; refine hK _ _ ?_; clear hK; clear Kv)))
    exact k _ hk.below
  obtain ⟨x0, x1, hux⟩ := htwo rfl (by omega)
  have hul : u.answers.length = 2 := by rw [hux]; rfl
  rw [hul] at hk
  have e2 : ((2 : Nat) : Int) = 2 := rfl
  have hhI : I64 h := by constructor <;> omega
  repeat (any_goals (first
  | ((with_reducible refine mk1 h hhI ?_); intro lv w8 h8 hl)
  | (with_reducible first|refine pureM_in ?_|((refine idGd ?_); refine zC ?_)|((refine idPick ?_); refine yC ?_)|((refine idCond ?_); refine yM ?_))
  | ((with_reducible refine idO ?_); (with_reducible refine oM_gen fun Kv hK=>?_); simp [go_sem, hk.cells, hn1, hn2, hul, e2]; (try simp (disch := omega) only [wrapI64, wrapU8, wrapU32, wrapU64]); refine hK _ _ ?_; clear hK; clear Kv)))
  have hk := hk.next h8
  have hs := hs.next h8
  have hu := hu.next h8
  clear h8
  repeat (any_goals ((with_reducible refine idO ?_); (with_reducible refine oM_gen fun Kv hK=>?_); simp [go_sem, hk.cells]; refine hK _ _ ?_; clear hK; clear Kv))
  refine Propose_ok s c.x w' hc'.x hw hs hl (fun w9 h9 => ?_)
  have hk := hk.next h9
  have hs := hs.next h9
  have hu := hu.next h9
  have hl := hl.next h9
  clear h9
  have ho := propose_R s c.x [h] w'
  generalize hO : (proposeM s c.x [h] w').1 = o at *
  generalize hpe : (proposeM s c.x [h] w').2 = pe at *
  iterate 2 (any_goals ((with_reducible refine idO ?_); (with_reducible refine oM_gen fun Kv hK=>?_); simp [go_sem]; refine hK _ _ ?_; clear hK; clear Kv))
  refine local_off o hk (fun g5 w10 hk h10 hg5 => ?_)
  have hs := hs.next h10
  have hu := hu.next h10
  have hl := hl.next h10
  clear h10
  by_cases hp0 : pe = 0
  rotate_left
  · repeat (any_goals (first
    | (with_reducible ((refine idCond ?_); refine yL ?_))
    | ((with_reducible refine idO ?_); (with_reducible refine oM_gen fun Kv hK=>?_); simp [go_sem, hk.cells, hp0]; refine hK _ _ ?_; clear hK; clear Kv)))
    exact k _ hk.below
  repeat (any_goals (first
  | (with_reducible ((refine idCond ?_); refine yM ?_))
  | ((with_reducible refine idO ?_); (with_reducible refine oM_gen fun Kv hK=>?_); simp [go_sem, hk.cells, hp0]; refine hK _ _ ?_; clear hK; clear Kv)))
  refine Grant_ok s c.x w' n hc'.x hw hn hs (fun w11 h11 => ?_)
  have hk := hk.next h11
  have hs := hs.next h11
  have hu := hu.next h11
  have hl := hl.next h11
  clear h11
  have hgr : I64 (grantM s c.x w' n) := grantM_I64 _ _ _ _
  obtain ⟨q5, hQ, hokq, tg, t1, t3⟩ := hfac rfl (by omega) rfl rfl hp0 ⟨by omega, by omega⟩
  generalize grantM s c.x w' n = gr at *
  have hud : u.dare = dare := by rw [hux]
  have hys := fun a => ys_two (h := h) (a := a) (p := u) hQ hokq (by rw [hux] : u.answers = [x0, x1])
  rw [hud] at hys
  have htg : TgR c.q tg := by
    intro a b d e
    obtain ⟨i0, k0, j0, e1, e2, e3, e4⟩ := t1
    rw [e] at e1
    simp only [Option.some.injEq, Prod.mk.injEq] at e1
    obtain ⟨r1, r2, r3⟩ := e1
    subst r1 r2 r3
    exact ⟨e2, e3, e4⟩
  have htn : tg ≠ none := by
    obtain ⟨i0, k0, j0, e1, _⟩ := t1
    rw [e1]; simp
  clear t1 hfac htwo hTI hU
  obtain ⟨lad', lc', rfl⟩ := hl.isSlice
  obtain ⟨lb, lo, rfl, hlb, cl0, _, _⟩ := hl.at (i := 0) (by simp)
  obtain ⟨ub, uo, rfl, hub, cu0, _, _⟩ := hu.at (i := 0) (by omega)
  obtain ⟨_, _, hbe, _, cu1, _, _⟩ := hu.at (i := 1) (by omega)
  cases hbe
  have cuk : ∀ (kk : Nat), kk < 2 → ∀ w', Below w11.heap.size w11 w' → w'.cell? ⟨ub, uo + kk, none⟩ = some (.int .i64 (if kk = 0 then x0 else x1)) := fun kk hk w' hb => by
    have h0 := cu0 w' hb
    have h1 := cu1 w' hb
    simp only [hux] at h0 h1
    match kk, hk with
    | 0, _ => exact h0
    | 1, _ => exact h1
  have clh := fun w' hb => cl0 w' hb
  simp only [List.getElem_cons_zero, Nat.add_zero] at clh
  clear cu0 cu1 cl0
  have hb11 := hk.below
  have hk : Kn w11 _ w11 := ⟨Below.refl _ _, hk.cells⟩
  have hkl11 := cells_lt hk.cells
  have hL := hL.below hb11 hL.size
  have hc' := hc'.next hb11
  refine ⟨ThJk hk c.q tg, mu10 c.q, ⟨hk, undef, undef, undef, undef, undef, undef, undef, undef, 1, by rw [cnt_start htg], by omega, by omega⟩, ?_⟩
  rintro _ _ w12 ⟨hk, y0, y1, y2, y3, y4, y5, y6, y7, a, rfl, ha1, ha2⟩
  by_cases hin : a = c.q
  · rw [hin, cnt_end htg, if_neg htn]
    have h1 : ¬ c.q < c.q := by omega
    repeat (any_goals (first
    | (with_reducible first|refine pureM_in ?_|((refine idGd ?_); refine zA ?_)|((refine idPick ?_); refine yB ?_)|((refine idCond ?_); refine yM ?_))
    | ((with_reducible refine idO ?_); (with_reducible refine oM_gen fun Kv hK=>?_); simp [go_sem, hk.cells, h1]; refine hK _ _ ?_; clear hK; clear Kv)))
    exact k _ (hb11.on hk.below)
  have h1 : a < c.q := by omega
  iterate 4 (any_goals (first
  | (with_reducible ((refine idCond ?_); refine yL ?_))
  | ((with_reducible refine idO ?_); (with_reducible refine oM_gen fun Kv hK=>?_); simp [go_sem, hk.cells, h1]; refine hK _ _ ?_; clear hK; clear Kv)))
  iterate 1 (any_goals ((with_reducible refine idO ?_); (with_reducible refine oM_gen fun Kv hK=>?_); simp [go_sem, build_bld1]; refine hK _ _ ?_; clear hK; clear Kv))
  refine arr_alloc al_bld fun gb w13 h13 hgb hhb => ?_
  have hkl := cells_lt hk.cells
  have hk0 := hk
  have hwb := hk.below.size
  refine arr_store sz_bld (xs := bldC ⟨a, 0, 0, []⟩ (.slice none 0 0)) rfl rfl (bld_one ⟨a, 0, 0, []⟩ none 0 0) hhb rfl (fun w14 hg14 hhb => ?_)
  have h14 := grown_below h13 hg14 hgb
  have hk := hk.next h14
  clear h13 hg14 h14
  have hgl := fun p hp => Nat.ne_of_lt (Nat.lt_of_lt_of_le (hkl p hp) hgb)
  have hgw : w11.heap.size ≤ gb := by omega
  have hus : ∀ w', Below w11.heap.size w11 w' → SpdR w' u (.slice (some ⟨ub, uo, none⟩) 2 uc) := fun w' hb => ⟨hUD, by rw [← hul]; exact hu.next hb⟩
  have hyl := hys a
  have hyr : ∀ x ∈ answersM s [h] a u, I64 x := answersM_rng
  generalize hYS : answersM s [h] a u = ys at *
  refine ⟨ThYk hk gb w11.heap.size a ys, grMu 2, ⟨hk, y1, 0, rfl, by omega, .slice none 0 0, hhb, own_none, by simp [Value.ownBlock]⟩, ?_⟩
  clear hhb
  rintro _ _ w15 ⟨hk, z0, kk, rfl, hkk, yv, hhb, hoy, hoff⟩
  by_cases hk2 : kk = 2
  · subst hk2
    rw [List.take_of_length_le (by rw [hyl]; simp)] at hoy
    repeat (any_goals (first
    | (with_reducible ((refine idCond ?_); refine yM ?_))
    | ((with_reducible refine idO ?_); (with_reducible refine oM_gen fun Kv hK=>?_); simp [go_sem]; refine hK _ _ ?_; clear hK; clear Kv)))
    refine ⟨ThUk hk c.q tg gb a ys, mu7 c.q, ⟨hk, ⟨0, 0, yv, hhb, by constructor <;> decide, by constructor <;> decide, hoy.ints hyr (by rw [hyl]; simp), fun e => hoff (own_in hoy e)⟩, _, _, _, _, _, 1, rfl, by omega, by omega⟩, ?_⟩
    clear hhb hoy hoff
    rintro _ _ w16 ⟨hk, hbl, r0, r1, r2, r3, r4, uu, rfl, hu1, hu2⟩
    by_cases hun : uu = c.q
    · rw [hun]
      have h2 : ¬ c.q < c.q := by omega
      repeat (any_goals (first
      | (with_reducible ((refine idCond ?_); refine yM ?_))
      | ((with_reducible refine idO ?_); (with_reducible refine oM_gen fun Kv hK=>?_); simp [go_sem, hk.cells, h2]; (try simp (disch := omega) only [wrapI64, wrapU8, wrapU32, wrapU64]); refine hK _ _ ?_; clear hK; clear Kv)))
      refine ⟨⟨hk, _, _, _, _, _, _, _, _, a + 1, by rw [← cnt_mid htg a]; rfl, by omega, by omega⟩, ?_⟩
      simp only [mu10_eq]; omega
    have h2 : uu < c.q := by omega
    repeat (any_goals (first
    | (with_reducible ((refine idCond ?_); refine yL ?_))
    | ((with_reducible refine idO ?_); (with_reducible refine oM_gen fun Kv hK=>?_); simp [go_sem, hk.cells, h2]; refine hK _ _ ?_; clear hK; clear Kv)))
    refine ⟨ThVk hk c.q tg gb a uu ys, mu6 c.q, ⟨hk, hbl, _, _, _, _, 0, rfl, by omega, by omega⟩, ?_⟩
    clear hbl
    rintro _ _ w17 ⟨hk, hbl, q0, q1, q2, q3, vv, rfl, hv1, hv2⟩
    by_cases hvn : vv = c.q
    · rw [hvn]
      have h3 : ¬ c.q < c.q := by omega
      repeat (any_goals (first
      | (with_reducible ((refine idCond ?_); refine yM ?_))
      | ((with_reducible refine idO ?_); (with_reducible refine oM_gen fun Kv hK=>?_); simp [go_sem, hk.cells, h3]; (try simp (disch := omega) only [wrapI64, wrapU8, wrapU32, wrapU64]); refine hK _ _ ?_; clear hK; clear Kv)))
      refine ⟨⟨hk, hbl, _, _, _, _, _, uu + 1, by rw [← cnt_in htg a uu]; rfl, by omega, by omega⟩, ?_⟩
      simp only [mu7_eq]; omega
    have h3 : vv < c.q := by omega
    have t4 := t3 a uu vv ha1 h1 hu1 h2 hv1 h3
    repeat (any_goals (first
    | (with_reducible ((refine idCond ?_); refine yL ?_))
    | ((with_reducible refine idO ?_); (with_reducible refine oM_gen fun Kv hK=>?_); simp [go_sem, hk.cells, h3]; refine hK _ _ ?_; clear hK; clear Kv)))
    refine ⟨ThMk hk tg gb a uu vv ys, ?_, ?_⟩
    rotate_left
    · rintro _ _ w18 ⟨hk, hbl, p0, p1, p2, p3, rfl⟩
      repeat (any_goals ((with_reducible refine idO ?_); (with_reducible refine oM_gen fun Kv hK=>?_); simp [go_sem]; (try simp (disch := omega) only [wrapI64, wrapU8, wrapU32, wrapU64]); refine hK _ _ ?_; clear hK; clear Kv))
      refine ⟨⟨hk, hbl, _, _, _, _, vv + 1, rfl, by omega, by omega⟩, ?_⟩
      simp only [mu6_eq]; omega
    obtain ⟨U, V, yv, hhb, hUI, hVI, hyi, hyo⟩ := hbl
    iterate 1 (any_goals ((with_reducible refine idO ?_); (with_reducible refine oM_gen fun Kv hK=>?_); simp [go_sem]; refine hK _ _ ?_; clear hK; clear Kv))
    refine arr_set (i := 1) (fun w => by kernel_rfl) rfl rfl hhb (by simp) (fun w18 hg18 hhb => ?_)
    have hk := hk.wrote hg18 hgw hgl
    have hyi := ints_grown hyi hg18 (fun i e1 e2 => by cases e2; exact hyo e1)
    iterate 1 (any_goals ((with_reducible refine idO ?_); (with_reducible refine oM_gen fun Kv hK=>?_); simp [go_sem]; refine hK _ _ ?_; clear hK; clear Kv))
    refine arr_set (i := 2) (fun w => by kernel_rfl) rfl rfl hhb (by simp) (fun w19 hg19 hhb => ?_)
    have hk := hk.wrote hg19 hgw hgl
    have hyi := ints_grown hyi hg19 (fun i e1 e2 => by cases e2; exact hyo e1)
    have hhb : Holds w19 gb 28 [.int .i64 a, .int .i64 uu, .int .i64 vv, yv] := hhb
    clear hg18 hg19
    obtain ⟨yad, yc, rfl⟩ := hyi.isSlice
    have haI : I64 a := by constructor <;> omega
    have huI : I64 uu := by constructor <;> omega
    have hvI : I64 vv := by constructor <;> omega
    have hk := hk.drew
    have hdr : Below w19.heap.size w19 { w19 with drawn := w19.drawn + 1 } := .drawn
    have hhb := hhb.next hdr
    have hyi := hyi.next hdr
    refine ⟨Nx { w19 with drawn := w19.drawn + 1 }, Below.refl _ _, rfl, ?_⟩
    generalize ({ w19 with drawn := w19.drawn + 1 } : World) = W at hk hhb hyi ⊢
    repeat (any_goals (first
    | (with_reducible refine pureH_in ?_)
    | ((with_reducible refine idOH ?_); (with_reducible refine oH_of ⟨_, rfl⟩ (fun W0 hW0 => by (refine oM_gen (fun Kv hK => ?_)); simp [go_sem, (hk.next hW0).cells, (hhb.next hW0).are]; (first | exact hK _ _ ⟨rfl, rfl⟩ | exact ⟨by omega, hK _ _ ⟨rfl, rfl⟩⟩)) ?_))))
    refine ⟨Nx, ?_⟩
    apply monoE
    · intro w1 h1
      exact Public_ok s c.x hc'.x (hs.next (hk.next h1).below) (fun w2 h2 => ⟨h1.on h2, h2, rfl⟩)
    apply monoE
    · rintro w1 h1 _ rfl
      exact Ask_ok s (publicM s c.x) o ⟨a, uu, vv, ys⟩ (publicM_I64 _ _) ho (hs.next (hk.next h1).below) (hl.next (hk.next h1).below) ⟨haI, huI, hvI, hyi.next h1⟩ (hL.below (hk.next h1).below hL.size) (fun w2 h2 => ⟨h1.on h2, h2, rfl⟩)
    repeat (apply monoE; focus (intro w9 h9; (repeat (intro v9 e9; try (obtain rfl := e9))); (repeat (any_goals ((with_reducible refine idO ?_); (with_reducible refine oM_gen fun Kv hK=>?_); simp [go_sem]; refine hK _ _ ?_; clear hK; clear Kv))); exact ⟨h9, Below.refl _ _, rfl⟩))
    (intro w9 h9; repeat (intro v9 e9; try (obtain rfl := e9)))
    have hk := hk.next h9
    have hhb := hhb.next h9
    have hyi := hyi.next h9
    clear h9
    rw [hYS] at t4
    have eO : obtainsM s (publicM s c.x) ⟨[h], o, n, gr⟩ ⟨a, uu, vv, ys⟩ t u = (decide ((askM s (publicM s c.x) [h] o ⟨a, uu, vv, ys⟩).2 = 0) && decide ((askM s (publicM s c.x) [h] o ⟨a, uu, vv, ys⟩).1 = n) && hitM s [h] ⟨a, uu, vv, ys⟩ dare t u (finishM s (publicM s c.x) [h] o ⟨a, uu, vv, ys⟩ gr).1 (finishM s (publicM s c.x) [h] o ⟨a, uu, vv, ys⟩ gr).2) := by
      unfold obtainsM hitM
      rw [hud]
    rw [eO] at t4
    clear eO
    have hch := cnt_hit (tg := tg) a uu vv
    have hcr := cnt_rng (tg := tg) a uu vv
    have hlt := finish_R s (publicM s c.x) [h] o ⟨a, uu, vv, ys⟩ gr
    generalize hfin1 : (finishM s (publicM s c.x) [h] o ⟨a, uu, vv, ys⟩ gr).1 = ft at *
    generalize hfin2 : (finishM s (publicM s c.x) [h] o ⟨a, uu, vv, ys⟩ gr).2 = fe at *
    generalize (askM s (publicM s c.x) [h] o ⟨a, uu, vv, ys⟩).1 = ac at *
    generalize (askM s (publicM s c.x) [h] o ⟨a, uu, vv, ys⟩).2 = ae at *
    by_cases hae : ae = 0
    rotate_left
    · rw [decide_eq_false hae, Bool.false_and, Bool.false_and] at t4
      rw [if_neg (of_decide_eq_false t4.symm)] at hch
      repeat (any_goals (first
      | (with_reducible first|((refine idGd ?_); refine zD ?_)|((refine idPick ?_); refine yB ?_)|((refine idCond ?_); refine yL ?_))
      | ((with_reducible refine idO ?_); (with_reducible refine oM_gen fun Kv hK=>?_); simp [go_sem, hae]; refine hK _ _ ?_; clear hK; clear Kv)))
      unfold ThMk ThM
      rw [hch]
      exact ⟨hk, ⟨uu, vv, _, hhb, huI, hvI, hyi, hyo⟩, _, _, _, _, rfl⟩
    rw [decide_eq_true hae, Bool.true_and] at t4
    by_cases hac : ac = n
    rotate_left
    · rw [decide_eq_false hac, Bool.false_and] at t4
      rw [if_neg (of_decide_eq_false t4.symm)] at hch
      repeat (any_goals (first
      | (with_reducible first|refine pureM_in ?_|((refine idGd ?_); refine zC ?_)|((refine idPick ?_); refine yC ?_)|((refine idCond ?_); refine yL ?_))
      | ((with_reducible refine idO ?_); (with_reducible refine oM_gen fun Kv hK=>?_); simp [go_sem, hae, hac]; refine hK _ _ ?_; clear hK; clear Kv)))
      unfold ThMk ThM
      rw [hch]
      exact ⟨hk, ⟨uu, vv, _, hhb, huI, hvI, hyi, hyo⟩, _, _, _, _, rfl⟩
    rw [decide_eq_true hac, Bool.true_and] at t4
    repeat (any_goals (first
    | (with_reducible first|refine pureM_in ?_|((refine idGd ?_); refine zC ?_)|((refine idPick ?_); refine yC ?_)|((refine idCond ?_); refine yM ?_))
    | ((with_reducible refine idO ?_); (with_reducible refine oM_gen fun Kv hK=>?_); simp [go_sem, hae, hac]; refine hK _ _ ?_; clear hK; clear Kv)))
    have hk := hk.drew
    have hdr : Below w9.heap.size w9 { w9 with drawn := w9.drawn + 1 } := .drawn
    have hhb := hhb.next hdr
    have hyi := hyi.next hdr
    refine ⟨Nx { w9 with drawn := w9.drawn + 1 }, Below.refl _ _, ?_⟩
    generalize ({ w9 with drawn := w9.drawn + 1 } : World) = W at hk hhb hyi ⊢
    repeat (any_goals (first
    | (with_reducible refine pureH_in ?_)
    | ((with_reducible refine idOH ?_); (with_reducible refine oH_of ⟨_, rfl⟩ (fun W0 hW0 => by (refine oM_gen (fun Kv hK => ?_)); simp [go_sem, (hk.next hW0).cells, (hhb.next hW0).are]; (first | exact hK _ _ ⟨rfl, rfl⟩ | exact ⟨by omega, hK _ _ ⟨rfl, rfl⟩⟩)) ?_))))
    have hkm := hk
    have endI := fun (w14 : World) (g8 : Nat) (h14 : Below W.heap.size W w14) (hh8 : Holds w14 g8 43 (tktC ft)) =>
      th_end (u1 := .int .i64 ac) (u2 := .int .i64 ae) (w := w14) s sad s.bases.length sc ⟨a, uu, vv, ys⟩ yad ys.length yc t ft u (some ⟨ub, uo, none⟩) 2 uc (.slice (some ⟨lb, lo, none⟩) [h].length lc') dare fe (cntT tg a uu vv) (ThMk hkm tg gb a uu vv ys) hd (by omega)
        (hl.next (hk.next h14).below) (hs.next (hk.next h14).below) ⟨haI, huI, hvI, hyi.next h14⟩ (hus _ (hk.next h14).below)
        (by
          obtain ⟨_, _, _, p1, p2, t1, t2, t3, t4, t5, t6, _, _, _, _, _, _, s1, s2, s3, s4, s5, _⟩ := (hk.next h14).cells
          obtain ⟨b1, b2, b3, b4, _⟩ := (hhb.next h14).are
          obtain ⟨y1, y2, y3, y4, y5, y6, _⟩ := hh8.are
          exact ⟨p1, p2, t1, t2, t3, t4, t5, t6, y1, y2, y3, y4, y5, y6, b1, b2, b3, b4, s1, s2, s3, s4, s5, trivial⟩)
        (fun W2 v3 v4 hb => by
          have hbW := h14.on hb
          refine ⟨hk.next hbW, ⟨uu, vv, _, hhb.next hbW, huI, hvI, hyi.next hbW, hyo⟩, .int .i64 ac, .int .i64 ae, v3, v4, ?_⟩
          rw [t4, hch]
          by_cases hx : tg = some (a, uu, vv)
          · rw [if_pos hx, decide_eq_true hx, if_pos rfl]
          · rw [if_neg hx, decide_eq_false hx, if_neg (by decide)])
    constructor
    · refine Public_ok s c.x hc'.x (hs.next hk.below) (fun w11 h11 => ⟨h11, ?_⟩)
      constructor
      · refine Finish_ok s (publicM s c.x) gr o ⟨a, uu, vv, ys⟩ (publicM_I64 _ _) hgr ho (hs.next (hk.next h11).below) (hl.next (hk.next h11).below) ⟨haI, huI, hvI, hyi.next h11⟩ (hL.below (hk.next h11).below hL.size) (fun w12 h12 => ⟨h11.on h12, ?_⟩)
        rw [hfin1, hfin2]
        have h12 := h11.on h12
        iterate 3 (any_goals (first
        | (with_reducible refine pureH_in ?_)
        | ((with_reducible refine idOH ?_); (with_reducible refine oH_of ⟨_, rfl⟩ (fun W0 hW0 => by (refine oM_gen (fun Kv hK => ?_)); simp [go_sem]; (first | exact hK _ _ ⟨rfl, rfl⟩ | exact ⟨by omega, hK _ _ ⟨rfl, rfl⟩⟩)) ?_))))
        refine arr_alloc al_tkt (fun g8 w13 h13 hg8 hh8 => ⟨h12.on h13, ?_⟩)
        have hg8 := Nat.le_trans h12.size hg8
        have h13 := h12.on h13
        refine arr_store sz_tkt rfl rfl (tkt_one _) hh8 rfl (fun w14 hg14 hh8 => ?_)
        have h14 := grown_below h13 hg14 hg8
        exact ⟨h14, h14, endI w14 g8 h14 hh8⟩
      · refine arr_alloc al_tkt (fun g8 w12 h12 hg8 hh8 => ⟨h11.on h12, ?_⟩)
        have hg8 := Nat.le_trans h11.size hg8
        have h12 := h11.on h12
        refine Finish_ok s (publicM s c.x) gr o ⟨a, uu, vv, ys⟩ (publicM_I64 _ _) hgr ho (hs.next (hk.next h12).below) (hl.next (hk.next h12).below) ⟨haI, huI, hvI, hyi.next h12⟩ (hL.below (hk.next h12).below hL.size) (fun w13 h13 => ⟨h12.on h13, ?_⟩)
        rw [hfin1, hfin2]
        have hh8 := hh8.next h13
        have h13 := h12.on h13
        iterate 3 (any_goals (first
        | (with_reducible refine pureH_in ?_)
        | ((with_reducible refine idOH ?_); (with_reducible refine oH_of ⟨_, rfl⟩ (fun W0 hW0 => by (refine oM_gen (fun Kv hK => ?_)); simp [go_sem]; (first | exact hK _ _ ⟨rfl, rfl⟩ | exact ⟨by omega, hK _ _ ⟨rfl, rfl⟩⟩)) ?_))))
        refine arr_store sz_tkt rfl rfl (tkt_one _) hh8 rfl (fun w14 hg14 hh8 => ?_)
        have h14 := grown_below h13 hg14 hg8
        exact ⟨h14, h14, endI w14 g8 h14 hh8⟩
    · refine arr_alloc al_tkt (fun g8 w11 h11 hg8 hh8 => ⟨h11, ?_⟩)
      refine Public_ok s c.x hc'.x (hs.next (hk.next h11).below) (fun w12 h12 => ⟨h11.on h12, ?_⟩)
      have hh8 := hh8.next h12
      have h12 := h11.on h12
      refine Finish_ok s (publicM s c.x) gr o ⟨a, uu, vv, ys⟩ (publicM_I64 _ _) hgr ho (hs.next (hk.next h12).below) (hl.next (hk.next h12).below) ⟨haI, huI, hvI, hyi.next h12⟩ (hL.below (hk.next h12).below hL.size) (fun w13 h13 => ⟨h12.on h13, ?_⟩)
      rw [hfin1, hfin2]
      have hh8 := hh8.next h13
      have h13 := h12.on h13
      iterate 3 (any_goals (first
      | (with_reducible refine pureH_in ?_)
      | ((with_reducible refine idOH ?_); (with_reducible refine oH_of ⟨_, rfl⟩ (fun W0 hW0 => by (refine oM_gen (fun Kv hK => ?_)); simp [go_sem]; (first | exact hK _ _ ⟨rfl, rfl⟩ | exact ⟨by omega, hK _ _ ⟨rfl, rfl⟩⟩)) ?_))))
      refine arr_store sz_tkt rfl rfl (tkt_one _) hh8 rfl (fun w14 hg14 hh8 => ?_)
      have h14 := grown_below h13 hg14 hg8
      exact ⟨h14, h14, endI w14 g8 h14 hh8⟩
  have hk3 : (kk : Int) < 2 := by omega
  have hys2 : ys.take kk ++ [subM c.q (if kk = 0 then x0 else x1) (mulM c.q dare (if kk = 1 then mulM c.q a h else a))] = ys.take (kk + 1) := by
    rw [hyl]
    match kk, (by omega : kk < 2) with
    | 0, _ => rfl
    | 1, _ => rfl
  have hpwI : I64 (if kk = 1 then mulM c.q a h else a) := by
    split
    · exact mulM_I64 _ _ _
    · constructor <;> omega
  repeat (any_goals (first
  | (with_reducible ((refine idCond ?_); refine yL ?_))
  | ((with_reducible refine idO ?_); (with_reducible refine oM_gen fun Kv hK=>?_); simp [go_sem, hk3]; refine hK _ _ ?_; clear hK; clear Kv)))
  refine ⟨ThPk hk gb w11.heap.size a (ys.take kk) (if kk = 1 then mulM c.q a h else a), ?_, ?_⟩
  · by_cases hk1 : kk = 1
    · have hk1' : (kk : Int) = 1 := by omega
      repeat (any_goals (first
      | (with_reducible ((refine idCond ?_); refine yL ?_))
      | ((with_reducible refine idO ?_); (with_reducible refine oM_gen fun Kv hK=>?_); simp [go_sem, hk1']; refine hK _ _ ?_; clear hK; clear Kv)))
      have hk := hk.drew
      have hdr : Below w15.heap.size w15 { w15 with drawn := w15.drawn + 1 } := .drawn
      have hhb := hhb.next hdr
      have hoy := hoy.keep hdr
      refine ⟨Nx { w15 with drawn := w15.drawn + 1 }, Below.refl _ _, rfl, ?_⟩
      generalize ({ w15 with drawn := w15.drawn + 1 } : World) = W at hk hhb hoy ⊢
      repeat (any_goals (first
      | (with_reducible refine pureH_in ?_)
      | ((with_reducible refine idOH ?_); (with_reducible refine oH_of ⟨_, rfl⟩ (fun W0 hW0 => by (refine oM_gen (fun Kv hK => ?_)); simp [go_sem, (hk.next hW0).cells, clh _ (hk.next hW0).below]; (first | exact hK _ _ ⟨rfl, rfl⟩ | exact ⟨by omega, hK _ _ ⟨rfl, rfl⟩⟩)) ?_))))
      refine ⟨Nx, fun w1 h1 => ?_⟩
      refine Mul_ok _ _ _ (fun w2 h2 => ?_)
      rw [if_pos hk1]
      exact ⟨(hk.next h1).next h2, rfl, yv, (hhb.next h1).next h2, OwnI.keep (hoy.keep h1) h2, hoff⟩
    · have hk1' : ¬ (kk : Int) = 1 := by omega
      repeat (any_goals (first
      | (with_reducible ((refine idCond ?_); refine yM ?_))
      | ((with_reducible refine idO ?_); (with_reducible refine oM_gen fun Kv hK=>?_); simp [go_sem, hk1']; refine hK _ _ ?_; clear hK; clear Kv)))
      rw [if_neg hk1]
      exact ⟨hk, rfl, yv, hhb, hoy, hoff⟩
  clear hhb hoy hoff
  generalize (if kk = 1 then mulM c.q a h else a) = pw at *
  have hcu := cuk kk (by omega)
  generalize (if kk = 0 then x0 else x1) = xk at *
  rintro _ _ w16 ⟨hk, rfl, yv, hhb, hoy, hoff⟩
  have hk := hk.drew
  have hdr : Below w16.heap.size w16 { w16 with drawn := w16.drawn + 1 } := .drawn
  have hhb := hhb.next hdr
  have hoy := hoy.keep hdr
  refine ⟨Nx { w16 with drawn := w16.drawn + 1 }, Below.refl _ _, rfl, ?_⟩
  generalize ({ w16 with drawn := w16.drawn + 1 } : World) = W at hk hhb hoy ⊢
  repeat (any_goals (first
  | (with_reducible refine pureH_in ?_)
  | ((with_reducible refine idOH ?_); (with_reducible refine oH_of ⟨_, rfl⟩ (fun W0 hW0 => by (refine oM_gen (fun Kv hK => ?_)); simp [go_sem, (hk.next hW0).cells, (hhb.next hW0).are, hcu _ (hk.next hW0).below]; (first | exact hK _ _ ⟨rfl, rfl⟩ | exact ⟨by omega, hK _ _ ⟨rfl, rfl⟩⟩)) ?_))))
  refine ⟨Nx, ?_⟩
  apply monoE
  · intro w1 h1
    exact Mul_ok _ _ _ (fun w2 h2 => ⟨h1.on h2, h2, rfl⟩)
  apply monoE
  · rintro w1 h1 _ rfl
    exact Sub_ok _ _ _ ⟨h1, Below.refl _ _, rfl⟩
  refine monoR (fun v w' => Ints w' v [subM c.q xk (mulM c.q dare pw)]) (fun v w w1 hS h => h.next hS) ?_ ?_
  · rintro w1 h1 _ rfl
    exact mk1 _ (subM_I64 _ _ _) (fun v w2 h2 hi => ⟨h1.on h2, h2, hi⟩)
  rintro w9 h9 _ rfl _ rfl v9 hi9
  have hk := hk.next h9
  have hhb := hhb.next h9
  have hoy : OwnI w9 _ _ _ := hoy.keep h9
  have hgb9 := hhb.lt
  refine append1g hoy hk.below.size hi9 (by rw [List.length_take]; omega) (fun v10 w10 ho10 hg10 hv10 => ?_)
  have hob := fun j (e : yv.ownBlock = some j) => (owns_own hoy e).2.1
  have hk10 := Kn.grownO hk hg10 (fun j e => hob j e) (fun j e p hp => by have := hob j e; have := hkl11 p hp; omega)
  have hhb := holdsO hhb hg10 hoff
  rw [hys2] at ho10
  have hoff10 : v10.ownBlock ≠ some gb := fun e => (hv10 _ e).elim hoff (fun h => by omega)
  obtain ⟨ad', c', rfl, _, _⟩ := RowR.of_owns ho10
  iterate 1 (any_goals ((with_reducible refine idO ?_); (with_reducible refine oM_gen fun Kv hK=>?_); simp [go_sem]; refine hK _ _ ?_; clear hK; clear Kv))
  refine arr_set (i := 3) (fun w => by kernel_rfl) rfl rfl hhb (by simp) (fun w11' hg11 hhb => ?_)
  have hk11 := hk10.wrote hg11 hgw hgl
  repeat (any_goals ((with_reducible refine idO ?_); (with_reducible refine oM_gen fun Kv hK=>?_); simp [go_sem]; (try simp (disch := omega) only [wrapI64, wrapU8, wrapU32, wrapU64]); refine hK _ _ ?_; clear hK; clear Kv))
  refine ⟨⟨hk11, _, kk + 1, rfl, by omega, _, hhb, owns_keep ho10 (fun j hj => hg11.block j (owns_own ho10 hj).1 (fun e => hoff10 (by rw [hj]; first | exact e | exact e.symm))), hoff10⟩, ?_⟩
  simp only [grMu_eq]; omega
end
end Go.Proofs
