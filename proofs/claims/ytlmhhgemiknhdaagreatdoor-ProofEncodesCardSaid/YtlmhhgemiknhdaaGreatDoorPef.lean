/- Parts of the proof of the seat's statements (GrT, PrFew, GrU): lemmas about the given translation and plain laws. No condition of their own. -/
import Derived.Test.YtlmhhgemiknhdaaGreatDoorPee
set_option linter.all false
namespace Go.Proofs
open Go Go.Sh Go.RowKit FdSpec TkSpec CodeSpec PrSpec
set_option linter.unusedSimpArgs false
set_option linter.unusedVariables false
set_option maxRecDepth 10000
section
variable {K : Value → World → Prop} {w w' w0 W : World} {L : List (Addr × Value)}
def FewC (c : Clm) : Prop := c.eqs.length ≤ 4 ∧ ∀ e ∈ c.eqs, e.terms.length ≤ 6
def FcJ (l : List Eqn) (w0 : World) (L : List (Addr × Value)) (vs : List Value) (w' : World) : Prop := Kn w0 L w' ∧ ∃ (u : Value) (i : Nat), vs = [u, .int .i64 (i : Int)] ∧ i ≤ l.length ∧ i ≤ 5 ∧ ∀ (j : Nat) (y : Eqn), j < i → l[j]? = some y → y.terms.length ≤ 6
theorem FewClaim_ok (c : Clm) {v : Value} (hc : ClmR w c v) (k : ∀ w' q, Below w.heap.size w w' → (q = true → FewC c) → K (.bool q) w') : callM Tryz.prog 54 #[clmV c v] K w := by
  apply sh_54_ok
  unfold sh_54
  have hc' := hc
  obtain ⟨ad, cc, rfl⟩ := hc.eqs.isSlice
  have hll := hc'.eqs.len
  refine box_kn (cs := clmC c (.slice ad c.eqs.length cc)) rfl (.start w) fun b1 W hk hb1 hbb => ?_
  clear hb1 hbb
  refine ⟨FcJ c.eqs w _, (fun vs _ => match vs with | [_, .int _ i] => c.eqs.length - i.toNat | _ => 0), ⟨hk, _, 0, rfl, by omega, by omega, fun j y h => by omega⟩, ?_⟩
  rintro _ _ w1 ⟨hk, u, i, rfl, hi, hi7, hy⟩
  by_cases hin : ¬ (i : Int) < c.eqs.length
  · by_cases h6 : (c.eqs.length : Int) ≤ 4
    · have hfew : FewC c := ⟨by omega, fun y hm => by
        obtain ⟨j, hj, rfl⟩ := List.getElem_of_mem hm
        exact hy j _ (by omega) (List.getElem?_eq_getElem hj)⟩
      by_cases h1 : c.vars ≤ 6
      · repeat (any_goals (first
        | (with_reducible first|refine pureM_in ?_|((refine idGd ?_); first|refine zA ?_|refine zB ?_|refine zD ?_|refine zE ?_)|((refine idPick ?_); first|refine yB ?_|refine yC ?_)|((refine idCond ?_); refine yM ?_))
        | ((with_reducible refine idO ?_); (with_reducible refine oM_gen fun Kv hK=>?_); simp [go_sem, hk.cells, hin, h6, h1]; refine hK _ _ ?_; clear hK; clear Kv)))
        exact k _ _ hk.below (fun _ => hfew)
      by_cases h2 : (120 : Int) < c.vars
      · by_cases h3 : c.vars ≤ 130
        · repeat (any_goals (first
          | (with_reducible first|refine pureM_in ?_|((refine idGd ?_); first|refine zA ?_|refine zB ?_|refine zC ?_)|((refine idPick ?_); first|refine yB ?_|refine yC ?_)|((refine idCond ?_); refine yM ?_))
          | ((with_reducible refine idO ?_); (with_reducible refine oM_gen fun Kv hK=>?_); simp [go_sem, hk.cells, hin, h6, h1, h2, h3]; refine hK _ _ ?_; clear hK; clear Kv)))
          exact k _ _ hk.below (fun _ => hfew)
        · repeat (any_goals (first
          | (with_reducible first|refine pureM_in ?_|((refine idGd ?_); first|refine zA ?_|refine zB ?_|refine zC ?_)|((refine idPick ?_); first|refine yB ?_|refine yC ?_)|((refine idCond ?_); refine yM ?_))
          | ((with_reducible refine idO ?_); (with_reducible refine oM_gen fun Kv hK=>?_); simp [go_sem, hk.cells, hin, h6, h1, h2, h3]; refine hK _ _ ?_; clear hK; clear Kv)))
          exact k _ _ hk.below (fun _ => hfew)
      · repeat (any_goals (first
        | (with_reducible first|refine pureM_in ?_|((refine idGd ?_); first|refine zA ?_|refine zB ?_|refine zC ?_)|((refine idPick ?_); first|refine yB ?_|refine yC ?_)|((refine idCond ?_); refine yM ?_))
        | ((with_reducible refine idO ?_); (with_reducible refine oM_gen fun Kv hK=>?_); simp [go_sem, hk.cells, hin, h6, h1, h2]; refine hK _ _ ?_; clear hK; clear Kv)))
        exact k _ _ hk.below (fun _ => hfew)
    · repeat (any_goals (first
      | (with_reducible first|((refine idGd ?_); first|refine zB ?_|refine zE ?_)|((refine idPick ?_); refine yC ?_)|((refine idCond ?_); refine yM ?_))
      | ((with_reducible refine idO ?_); (with_reducible refine oM_gen fun Kv hK=>?_); simp [go_sem, hk.cells, hin, h6]; refine hK _ _ ?_; clear hK; clear Kv)))
      exact k _ _ hk.below (fun h => by cases h)
  have hin : (i : Int) < c.eqs.length := by omega
  by_cases h7 : ¬ (i : Int) < 5
  · have h6 : ¬ (c.eqs.length : Int) ≤ 4 := by omega
    repeat (any_goals (first
    | (with_reducible first|refine pureM_in ?_|((refine idGd ?_); first|refine zA ?_|refine zB ?_|refine zE ?_)|((refine idPick ?_); first|refine yB ?_|refine yC ?_)|((refine idCond ?_); refine yM ?_))
    | ((with_reducible refine idO ?_); (with_reducible refine oM_gen fun Kv hK=>?_); simp [go_sem, hk.cells, hin, h7, h6]; refine hK _ _ ?_; clear hK; clear Kv)))
    exact k w1 _ hk.below (fun h => by cases h)
  have h7 : (i : Int) < 5 := by omega
  obtain ⟨b5, o5, rfl, hb5, v5, c5, c6, i5, _⟩ := hc'.eqs.at (i := i) (by omega)
  have e5 : c.eqs[i]? = some c.eqs[i] := List.getElem?_eq_getElem (by omega)
  generalize c.eqs[i] = d at *
  obtain ⟨ad5, cp5, rfl⟩ := i5.isSlice
  by_cases h8 : (6 : Int) < d.terms.length
  · repeat (any_goals (first
    | (with_reducible first|refine pureM_in ?_|((refine idGd ?_); refine zA ?_)|((refine idPick ?_); refine yB ?_)|((refine idCond ?_); refine yL ?_))
    | ((with_reducible refine idO ?_); (with_reducible refine oM_gen fun Kv hK=>?_); simp [go_sem, hk.cells, hin, h7, (hk.below.cell hb5).trans c6, h8]; refine hK _ _ ?_; clear hK; clear Kv)))
    exact k w1 _ hk.below (fun h => by cases h)
  repeat (any_goals (first
  | (with_reducible first|refine pureM_in ?_|((refine idGd ?_); refine zA ?_)|((refine idPick ?_); refine yB ?_)|((refine idCond ?_); first|refine yL ?_|refine yM ?_))
  | ((with_reducible refine idO ?_); (with_reducible refine oM_gen fun Kv hK=>?_); simp [go_sem, hk.cells, hin, h7, (hk.below.cell hb5).trans c6, h8]; (try simp (disch := omega) only [wrapI64, wrapU8, wrapU32, wrapU64]); refine hK _ _ ?_; clear hK; clear Kv)))
  refine ⟨⟨hk, _, i + 1, rfl, by omega, by omega, fun j y hj e => ?_⟩, by show c.eqs.length - (((i + 1 : Nat) : Int)).toNat < c.eqs.length - ((i : Nat) : Int).toNat; omega⟩
  by_cases h : j = i
  · subst h; rw [e5] at e; cases e; omega
  · exact hy j y (by omega) e
def FewG (l : List Cls) : Prop := l.length ≤ 5 ∧ ∀ c ∈ l, c.claims.length ≤ 5 ∧ ∀ m ∈ c.claims, FewC m
def FgJ (l : List Cls) (w0 : World) (L : List (Addr × Value)) (vs : List Value) (w' : World) : Prop := Kn w0 L w' ∧ ∃ (u u2 : Value) (i : Nat), vs = [u, u2, .int .i64 (i : Int)] ∧ i ≤ l.length ∧ i ≤ 6 ∧ ∀ (j : Nat) (c : Cls), j < i → l[j]? = some c → c.claims.length ≤ 5 ∧ ∀ m ∈ c.claims, FewC m
def FhJ (l : List Clm) (w0 : World) (L : List (Addr × Value)) (vs : List Value) (w' : World) : Prop := Kn w0 L w' ∧ ∃ (u : Value) (i : Nat), vs = [u, .int .i64 (i : Int)] ∧ i ≤ l.length ∧ ∀ (j : Nat) (y : Clm), j < i → l[j]? = some y → FewC y
theorem Few_ok (s : Stp) (goal : List Cls) {v gv : Value} (hs : SetR w s v) (hg : GoalR w gv goal) (k : ∀ w' q, Below w.heap.size w w' → (q = true → FewG goal ∧ s.bases.length ≤ 9) → K (.bool q) w') : callM Tryz.prog 50 #[stpV s v, gv] K w := by
  apply sh_50_ok
  unfold sh_50
  have hs' := hs
  obtain ⟨ad, ca, rfl⟩ := hs.ints.isSlice
  have hg' := hg
  obtain ⟨gad, gc, rfl⟩ := hg.isSlice
  have hll := hg'.len
  refine box_kn (cs := stpC s (.slice ad s.bases.length ca)) rfl (.start w) fun b1 W hk hb1 hbb => ?_
  clear hb1 hbb
  refine ⟨FgJ goal w _, (fun vs _ => match vs with | [_, _, .int _ i] => goal.length - i.toNat | _ => 0), ⟨hk, _, _, 0, rfl, by omega, by omega, fun j y h => by omega⟩, ?_⟩
  rintro _ _ w1 ⟨hk, u, u2, i, rfl, hi, hi7, hy⟩
  by_cases hin : ¬ (i : Int) < goal.length
  · by_cases h6 : (goal.length : Int) ≤ 5
    · have hfew : FewG goal := ⟨by omega, fun y hm => by
        obtain ⟨j, hj, rfl⟩ := List.getElem_of_mem hm
        exact hy j _ (by omega) (List.getElem?_eq_getElem hj)⟩
      repeat (any_goals (first
      | (with_reducible first|((refine idGd ?_); first|refine zA ?_|refine zB ?_)|((refine idPick ?_); refine yC ?_)|((refine idCond ?_); refine yM ?_))
      | ((with_reducible refine idO ?_); (with_reducible refine oM_gen fun Kv hK=>?_); simp [go_sem, hk.cells, hin, h6]; refine hK _ _ ?_; clear hK; clear Kv)))
      refine FewSetup_ok s (hs'.next hk.below) (fun w2 h2 => ?_)
      have hk := hk.next h2
      generalize hq : decide ((s.bases.length : Int) ≤ 9) = q
      repeat (any_goals (with_reducible ((refine idPick ?_); refine yB ?_)))
      refine k _ _ hk.below (fun e => ⟨hfew, ?_⟩)
      subst e
      have := of_decide_eq_true hq
      omega
    · repeat (any_goals (first
      | (with_reducible first|((refine idGd ?_); refine zB ?_)|((refine idPick ?_); refine yC ?_)|((refine idCond ?_); refine yM ?_))
      | ((with_reducible refine idO ?_); (with_reducible refine oM_gen fun Kv hK=>?_); simp [go_sem, hk.cells, hin, h6]; refine hK _ _ ?_; clear hK; clear Kv)))
      exact k _ _ hk.below (fun h => by cases h)
  have hin : (i : Int) < goal.length := by omega
  by_cases h7 : ¬ (i : Int) < 6
  · have h6 : ¬ (goal.length : Int) ≤ 5 := by omega
    repeat (any_goals (first
    | (with_reducible first|refine pureM_in ?_|((refine idGd ?_); first|refine zA ?_|refine zB ?_)|((refine idPick ?_); first|refine yB ?_|refine yC ?_)|((refine idCond ?_); refine yM ?_))
    | ((with_reducible refine idO ?_); (with_reducible refine oM_gen fun Kv hK=>?_); simp [go_sem, hk.cells, hin, h7, h6]; refine hK _ _ ?_; clear hK; clear Kv)))
    exact k w1 _ hk.below (fun h => by cases h)
  have h7 : (i : Int) < 6 := by omega
  obtain ⟨b5, o5, rfl, hb5, _, _, hcell, v5, rfl, _, i5⟩ := hg'.at (i := i) (by omega)
  have c1 := hcell 1 _ rfl
  have e5 : goal[i]? = some goal[i] := List.getElem?_eq_getElem (by omega)
  generalize goal[i] = d at *
  obtain ⟨ad5, cp5, rfl⟩ := i5.isSlice
  have hdl := i5.len
  have C1 := (hk.below.cell hb5).trans c1
  by_cases h8 : (5 : Int) < d.claims.length
  · repeat (any_goals (first
    | (with_reducible first|refine pureM_in ?_|((refine idGd ?_); refine zA ?_)|((refine idPick ?_); refine yB ?_)|((refine idCond ?_); refine yL ?_))
    | ((with_reducible refine idO ?_); (with_reducible refine oM_gen fun Kv hK=>?_); simp [go_sem, hk.cells, hin, h7, C1, h8]; refine hK _ _ ?_; clear hK; clear Kv)))
    exact k w1 _ hk.below (fun h => by cases h)
  repeat (any_goals (first
  | (with_reducible first|refine pureM_in ?_|((refine idGd ?_); refine zA ?_)|((refine idPick ?_); refine yB ?_)|((refine idCond ?_); first|refine yL ?_|refine yM ?_))
  | ((with_reducible refine idO ?_); (with_reducible refine oM_gen fun Kv hK=>?_); simp [go_sem, hk.cells, hin, h7, C1, h8]; refine hK _ _ ?_; clear hK; clear Kv)))
  refine ⟨FhJ d.claims w _, (fun vs _ => match vs with | [_, .int _ i] => d.claims.length - i.toNat | _ => 0), ⟨hk, _, 0, rfl, by omega, fun j y h => by omega⟩, ?_⟩
  rintro _ _ w2 ⟨hk, u3, j, rfl, hj, hyj⟩
  have C1 := (hk.below.cell hb5).trans c1
  by_cases hjn : ¬ (j : Int) < d.claims.length
  · repeat (any_goals (first
    | (with_reducible ((refine idCond ?_); refine yM ?_))
    | ((with_reducible refine idO ?_); (with_reducible refine oM_gen fun Kv hK=>?_); simp [go_sem, hk.cells, hin, h7, C1, hjn]; (try simp (disch := omega) only [wrapI64, wrapU8, wrapU32, wrapU64]); refine hK _ _ ?_; clear hK; clear Kv)))
    refine ⟨⟨hk, _, _, i + 1, rfl, by omega, by omega, fun j' z hj' e => ?_⟩, by show goal.length - (((i + 1 : Nat) : Int)).toNat < goal.length - ((i : Nat) : Int).toNat; omega⟩
    by_cases h : j' = i
    · subst h; rw [e5] at e; cases e
      refine ⟨by omega, fun y hm => ?_⟩
      obtain ⟨j', hj', rfl⟩ := List.getElem_of_mem hm
      exact hyj j' _ (by omega) (List.getElem?_eq_getElem hj')
    · exact hy j' z (by omega) e
  have hjn : (j : Int) < d.claims.length := by omega
  obtain ⟨b6, o6, rfl, hb6, _, _, hcell6, v6, rfl, hm⟩ := i5.at (i := j) (by omega)
  have m0 := hcell6 0 _ rfl
  have m1 := hcell6 1 _ rfl
  simp only [Nat.add_zero] at m0
  have e6 : d.claims[j]? = some d.claims[j] := List.getElem?_eq_getElem (by omega)
  generalize d.claims[j] = m at *
  have hm' := hm
  obtain ⟨ad6, cp6, rfl⟩ := hm.eqs.isSlice
  repeat (any_goals (first
  | (with_reducible ((refine idCond ?_); refine yL ?_))
  | ((with_reducible refine idO ?_); (with_reducible refine oM_gen fun Kv hK=>?_); simp [go_sem, hk.cells, hin, h7, C1, (hk.below.cell hb6).trans m0, (hk.below.cell hb6).trans m1, hjn]; refine hK _ _ ?_; clear hK; clear Kv)))
  refine FewClaim_ok m (hm'.next hk.below) (fun w3 q h3 hq => ?_)
  have hk := hk.next h3
  cases q with
  | false =>
    repeat (any_goals (first
    | (with_reducible ((refine idCond ?_); refine yL ?_))
    | ((with_reducible refine idO ?_); (with_reducible refine oM_gen fun Kv hK=>?_); simp [go_sem]; refine hK _ _ ?_; clear hK; clear Kv)))
    exact k _ _ hk.below (fun h => by cases h)
  | true =>
  repeat (any_goals (first
  | (with_reducible ((refine idCond ?_); refine yM ?_))
  | ((with_reducible refine idO ?_); (with_reducible refine oM_gen fun Kv hK=>?_); simp [go_sem]; (try simp (disch := omega) only [wrapI64, wrapU8, wrapU32, wrapU64]); refine hK _ _ ?_; clear hK; clear Kv)))
  refine ⟨⟨hk, _, j + 1, rfl, by omega, fun j' y' hj' e => ?_⟩, by show d.claims.length - (((j + 1 : Nat) : Int)).toNat < d.claims.length - ((j : Nat) : Int).toNat; omega⟩
  by_cases h : j' = j
  · subst h; rw [e6] at e; cases e; exact hq rfl
  · exact hyj j' y' (by omega) e
end
end Go.Proofs
namespace PrSpec
open FdSpec TkSpec CodeSpec FdPoly GrLaw
theorem flat_max {α : Type} (f : α → List Int) (N : Nat) : ∀ (l : List α), (∀ x ∈ l, (f x).length ≤ N) → (l.flatMap f).length ≤ N * l.length
  | [], _ => by simp
  | a :: l, h => by
    have ih := flat_max f N l (fun x hx => h x (by simp [hx]))
    have := h a (by simp)
    simp only [List.flatMap_cons, List.length_append, List.length_cons, Nat.mul_add, Nat.mul_one]
    omega
theorem clauseL_d : ∀ (ds : List (List Int)) (ls : List (List (List Int))), evenL ds ls = true → ds.length ≤ (clauseL ds ls).length ∧ (∀ y ∈ ds, y.length ≤ (clauseL ds ls).length) ∧ ∀ z ∈ ls, ∀ y ∈ z, y.length ≤ (clauseL ds ls).length
  | [], [], _ => by simp
  | [], _ :: _, h => by simp [evenL] at h
  | _ :: _, [], h => by simp [evenL] at h
  | d :: ds, a :: ls, h => by
    simp only [evenL, Bool.and_eq_true, decide_eq_true_eq] at h
    obtain ⟨h1, h2, h3⟩ := clauseL_d ds ls h.2
    have h4 := itemL_len d a h.1
    have h5 : ∀ y ∈ a, y.length ≤ (itemL d a).length := item_a d a h.1
    simp only [clauseL, List.length_cons, List.length_append]
    refine ⟨by omega, fun y hy => ?_, fun z hz y hy => ?_⟩
    · rcases List.mem_cons.1 hy with rfl | hy
      · omega
      · have := h2 y hy; omega
    · rcases List.mem_cons.1 hz with rfl | hz
      · have := h5 y hy; omega
      · have := h3 z hz y hy; omega
where
  item_a : ∀ (d : List Int) (a : List (List Int)), d.length = a.length → ∀ y ∈ a, y.length ≤ (itemL d a).length
    | [], [], _ => by simp
    | [], _ :: _, h => by simp at h
    | _ :: _, [], h => by simp at h
    | x :: d, y :: a, h => by
      intro z hz
      have ih := item_a d a (by simpa using h)
      simp only [itemL, List.length_cons, List.length_append]
      rcases List.mem_cons.1 hz with rfl | hz
      · omega
      · have := ih z hz; omega
theorem decode_small {s : Bytes} (h : s.length ≤ 400) : SmallP 1000 (decodeM s).1.1 (decodeM s).1.2 := by
  obtain ⟨⟨p, q⟩, hp⟩ : ∃ r, decodeM s = r := ⟨_, rfl⟩
  rw [hp]
  cases q with
  | false =>
    unfold decodeM at hp
    split at hp
    · cases hp
    · cases hp; exact ⟨by simp, by simp, by simp⟩
  | true =>
    have he := encode_decode hp
    unfold encodeM at he
    split at he
    · rename_i hev
      have e2 : encNums ((p.1.length : Int) :: clauseL p.1 p.2) = s := congrArg Prod.fst he
      have hl := encNums_pos ((p.1.length : Int) :: clauseL p.1 p.2)
      rw [e2, List.length_cons] at hl
      obtain ⟨h1, h2, h3⟩ := clauseL_d p.1 p.2 hev
      exact ⟨show p.1.length ≤ 1000 by omega, fun y hy => by have := h2 y hy; omega, fun z hz y hy => by have := h3 z hz y hy; omega⟩
    · cases he
end PrSpec
namespace Go.Proofs
open Go Go.Sh Go.RowKit FdSpec TkSpec CodeSpec PrSpec
set_option linter.unusedSimpArgs false
set_option linter.unusedVariables false
set_option maxRecDepth 10000
section
variable {K : Value → World → Prop} {w w' w0 W : World} {L : List (Addr × Value)}
theorem few_goal {l : List Cls} (h : FewG l) : (goalL l).length ≤ 1000000 := by
  have h1 : ∀ c ∈ l, (clsL c).length ≤ 400 := fun c hc => by
    obtain ⟨h2, h3⟩ := h.2 c hc
    have h4 : ∀ m ∈ c.claims, (clmL m).length ≤ 70 := fun m hm => by
      obtain ⟨h5, h6⟩ := h3 m hm
      have h7 : ∀ e ∈ m.eqs, (eqnL e).length ≤ 14 := fun e he => by
        have := flat_max trmL 2 e.terms (fun t _ => by simp [trmL])
        have := h6 e he
        simp only [eqnL, List.length_cons]
        omega
      have := flat_max eqnL 14 m.eqs h7
      simp only [clmL, List.length_cons]
      omega
    have := flat_max clmL 70 c.claims h4
    simp only [clsL, List.length_cons]
    omega
  have := flat_max clsL 400 l h1
  have := h.1
  simp only [goalL, List.length_cons]
  omega
theorem few_small {ds : List (List Int)} {al : List (List (List Int))} (h : FewL ds ∧ FewN al) : SmallP 1000 ds al :=
  ⟨by have := h.1.1; omega, fun y hy => by have := h.1.2 y hy; omega, fun z hz y hy => by have := (h.2.2 z hz).2 y hy; omega⟩
theorem prf_in {dv av : Value} {ds : List (List Int)} {ls : List (List (List Int))} (hd : ListsR w dv ds) (ha : NumsR w av ls) : ∀ x ∈ (ds.length : Int) :: clauseL ds ls, InR x := by
  have hdlen := hd.len
  obtain ⟨_, _, rfl⟩ := id hd.isSlice
  obtain ⟨_, _, rfl⟩ := id ha.isSlice
  intro x hx
  rcases List.mem_cons.1 hx with rfl | hx
  · unfold InR; omega
  · refine clauseL_in ds ls (fun y hy => ?_) (fun z hz y hy => ?_) x hx
    · obtain ⟨j, hj, rfl⟩ := List.getElem_of_mem hy
      obtain ⟨_, _, _, _, _, _, h⟩ := hd.one (i := j) hj
      exact ⟨by have := h.len; omega, fun x hx => (InR_iff x).2 (h.rng x hx)⟩
    · obtain ⟨j, hj, rfl⟩ := List.getElem_of_mem hz
      obtain ⟨_, _, v, _, _, _, h⟩ := ha.one (i := j) hj
      obtain ⟨j2, hj2, rfl⟩ := List.getElem_of_mem hy
      obtain ⟨ad, c, rfl⟩ := h.isSlice
      obtain ⟨_, _, _, _, _, _, h⟩ := h.one (i := j2) hj2
      exact ⟨by have := h.len; omega, fun x hx => (InR_iff x).2 (h.rng x hx)⟩
theorem few_clause {ds : List (List Int)} {al : List (List (List Int))} (h : FewL ds ∧ FewN al) : (clauseL ds al).length ≤ 486 := by
  have := clauseL_le (N := 8) ds al (fun y hy => h.1.2 y hy) (fun z hz y hy => (h.2.2 z hz).2 y hy)
  have h2 : ((8 + 2) * 8 + 1) * ds.length ≤ ((8 + 2) * 8 + 1) * 6 := Nat.mul_le_mul_left _ h.1.1
  omega
theorem encodes_ok (ds : List (List Int)) (al : List (List (List Int))) (t : Bytes) (a b : List Cls) {dv av gv hv : Value} (hd : ListsR w dv ds) (ha : NumsR w av al) (hga : GoalR w gv a) (hgb : GoalR w hv b) (hT : DbT w) (hl : Cd.LaidE w) (htl : t.length ≤ 140737488351232) (k : ∀ w', Below w.heap.size w w' → K (.bool true) w') :
    callM Tryz.prog 10 #[prfV dv av, .string ⟨t.toArray⟩, gv, hv] K w := by
  apply sh_10_ok
  unfold sh_10
  have hd' := hd
  have ha' := ha
  obtain ⟨dad, dc, rfl⟩ := hd.isSlice
  obtain ⟨aad, ac, rfl⟩ := ha.isSlice
  refine box_kn (cs := prfC (.slice dad ds.length dc) (.slice aad al.length ac)) rfl (.start w) fun b1 W hk hb1 hbb => ?_
  clear hb1 hbb
  refine less_ok (hT.next hk.below) (hl.below hk.below hl.size) (fun w1 h1 => ?_)
  have hk := hk.next h1
  repeat (any_goals ((with_reducible refine idO ?_); (with_reducible refine oM_gen fun Kv hK=>?_); simp [go_sem, hk.cells]; refine hK _ _ ?_; clear hK; clear Kv))
  refine fewProof_ok (hd'.next (atOf_stay ints_stay) hk.below) (ha'.next (atOf_stay lists_vstay) hk.below) (fun w2 q h2 hq => ?_)
  have hk := hk.next h2
  cases q with
  | false =>
    repeat (any_goals (first
    | (with_reducible first|((refine idGd ?_); refine zD ?_)|((refine idPick ?_); refine yB ?_)|((refine idCond ?_); refine yL ?_))
    | ((with_reducible refine idO ?_); (with_reducible refine oM_gen fun Kv hK=>?_); simp [go_sem]; refine hK _ _ ?_; clear hK; clear Kv)))
    exact k _ hk.below
  | true =>
  have hsm := few_small (hq rfl)
  have hcl := few_clause (hq rfl)
  have hpin := prf_in hd' ha'
  clear hq
  by_cases hm : (400 : Int) < t.length
  · repeat (any_goals (first
    | (with_reducible first|refine pureM_in ?_|((refine idGd ?_); first|refine zC ?_|refine zD ?_)|((refine idPick ?_); first|refine yB ?_|refine yC ?_)|((refine idCond ?_); refine yL ?_))
    | ((with_reducible refine idO ?_); (with_reducible refine oM_gen fun Kv hK=>?_); simp [go_sem, hk.cells, hm, ba_size]; refine hK _ _ ?_; clear hK; clear Kv)))
    exact k _ hk.below
  repeat (any_goals (first
  | (with_reducible first|refine pureM_in ?_|((refine idGd ?_); refine zC ?_)|((refine idPick ?_); refine yC ?_))
  | ((with_reducible refine idO ?_); (with_reducible refine oM_gen fun Kv hK=>?_); simp [go_sem, hk.cells, hm, ba_size]; refine hK _ _ ?_; clear hK; clear Kv)))
  refine Few_ok zS a (zS_R (hT.next hk.below) (Ints.nil _)) (hga.next (atOf_stay cls_vstay) hk.below) (fun w3 q h3 hqa => ?_)
  have hk := hk.next h3
  cases q with
  | false =>
    repeat (any_goals (first
    | (with_reducible first|((refine idGd ?_); first|refine zC ?_|refine zD ?_)|((refine idPick ?_); first|refine yB ?_|refine yC ?_)|((refine idCond ?_); refine yL ?_))
    | ((with_reducible refine idO ?_); (with_reducible refine oM_gen fun Kv hK=>?_); simp [go_sem]; refine hK _ _ ?_; clear hK; clear Kv)))
    exact k _ hk.below
  | true =>
  repeat (any_goals (first
  | (with_reducible first|refine pureM_in ?_|((refine idGd ?_); refine zC ?_)|((refine idPick ?_); refine yC ?_))
  | ((with_reducible refine idO ?_); (with_reducible refine oM_gen fun Kv hK=>?_); simp [go_sem, hk.cells]; refine hK _ _ ?_; clear hK; clear Kv)))
  refine Few_ok zS b (zS_R (hT.next hk.below) (Ints.nil _)) (hgb.next (atOf_stay cls_vstay) hk.below) (fun w4 q h4 hqb => ?_)
  have hk := hk.next h4
  cases q with
  | false =>
    repeat (any_goals (first
    | (with_reducible first|((refine idGd ?_); refine zC ?_)|((refine idPick ?_); refine yC ?_)|((refine idCond ?_); refine yL ?_))
    | ((with_reducible refine idO ?_); (with_reducible refine oM_gen fun Kv hK=>?_); simp [go_sem]; refine hK _ _ ?_; clear hK; clear Kv)))
    exact k _ hk.below
  | true =>
  have hla := few_goal (hqa rfl).1
  have hlb := few_goal (hqb rfl).1
  clear hqa hqb
  repeat (any_goals (first
  | (with_reducible first|((refine idGd ?_); refine zC ?_)|((refine idPick ?_); refine yC ?_)|((refine idCond ?_); refine yM ?_))
  | ((with_reducible refine idO ?_); (with_reducible refine oM_gen fun Kv hK=>?_); simp [go_sem, hk.cells]; refine hK _ _ ?_; clear hK; clear Kv)))
  refine Encode_ok ds al (hd'.next (atOf_stay ints_stay) hk.below) (ha'.next (atOf_stay lists_vstay) hk.below) (hl.below hk.below hl.size).toLaid hsm (fun w5 h5 => ?_)
  have hk := hk.next h5
  have hde := fun (e : evenL ds al = true) => decode_encode e hpin (by rw [List.length_cons]; omega)
  have hxl : (encodeM ds al).1.length < 1000000000 := by
    unfold encodeM
    split
    · have := encNums_le hpin (by rw [List.length_cons]; omega)
      rw [List.length_cons] at this
      show (encNums _).length < _
      unfold encNums
      omega
    · simp
  have hxe : evenL ds al = false → (encodeM ds al).1 = [] := fun e => by unfold encodeM; rw [e]; rfl
  have hx2 : (encodeM ds al).2 = evenL ds al := by unfold encodeM; split <;> simp_all
  rw [hx2]
  generalize (encodeM ds al).1 = x at *
  iterate 2 (any_goals ((with_reducible refine idO ?_); (with_reducible refine oM_gen fun Kv hK=>?_); simp [go_sem]; refine hK _ _ ?_; clear hK; clear Kv))
  refine Decode_ok x hxl (hl.below hk.below hl.size) (fun w6 dv2 av2 h6 hd2 ha2 => ?_)
  have hk := hk.next h6
  obtain ⟨dad2, dc2, rfl⟩ := id hd2.isSlice
  obtain ⟨aad2, ac2, rfl⟩ := id ha2.isSlice
  iterate 2 (any_goals ((with_reducible refine idO ?_); (with_reducible refine oM_gen fun Kv hK=>?_); simp [go_sem]; refine hK _ _ ?_; clear hK; clear Kv))
  refine local_prf _ _ _ _ _ _ hk (fun b2 W6 hk hb2 hg2 => ?_)
  have hd2 := hd2.next (atOf_stay ints_stay) hb2
  have ha2 := ha2.next (atOf_stay lists_vstay) hb2
  cases hev : evenL ds al with
  | true =>
    have hde := hde hev
    rw [hde] at hd2 ha2 hk ⊢
    repeat (any_goals (first
    | (with_reducible first|refine pureM_in ?_|((refine idGd ?_); first|refine zA ?_|refine zC ?_))
    | ((with_reducible refine idO ?_); (with_reducible refine oM_gen fun Kv hK=>?_); simp [go_sem, hk.cells]; refine hK _ _ ?_; clear hK; clear Kv)))
    refine SameProof_ok (hd'.next (atOf_stay ints_stay) hk.below) (ha'.next (atOf_stay lists_vstay) hk.below) hd2 ha2 (fun w7 h7 => ?_)
    have hk := hk.next h7
    rw [decide_eq_true (rfl : ds = ds), decide_eq_true (rfl : al = al), Bool.and_self]
    repeat (any_goals (first
    | (with_reducible first|((refine idGd ?_); first|refine zA ?_|refine zC ?_)|((refine idPick ?_); first|refine yB ?_|refine yC ?_)|((refine idCond ?_); refine yM ?_))
    | ((with_reducible refine idO ?_); (with_reducible refine oM_gen fun Kv hK=>?_); simp [go_sem, hk.cells]; refine hK _ _ ?_; clear hK; clear Kv)))
    refine Decode_ok t (by omega) (hl.below hk.below hl.size) (fun w8 dv3 av3 h8 hd3 ha3 => ?_)
    have hk := hk.next h8
    obtain ⟨dad3, dc3, rfl⟩ := id hd3.isSlice
    obtain ⟨aad3, ac3, rfl⟩ := id ha3.isSlice
    iterate 2 (any_goals ((with_reducible refine idO ?_); (with_reducible refine oM_gen fun Kv hK=>?_); simp [go_sem]; refine hK _ _ ?_; clear hK; clear Kv))
    refine local_prf _ _ _ _ _ _ hk (fun b3 W8 hk hb3 hg3 => ?_)
    have hd3 := hd3.next (atOf_stay ints_stay) hb3
    have ha3 := ha3.next (atOf_stay lists_vstay) hb3
    repeat (any_goals ((with_reducible refine idO ?_); (with_reducible refine oM_gen fun Kv hK=>?_); simp [go_sem, hk.cells]; refine hK _ _ ?_; clear hK; clear Kv))
    refine Encode_ok (decodeM t).1.1 (decodeM t).1.2 hd3 ha3 (hl.below hk.below hl.size).toLaid (decode_small (by omega)) (fun w9 h9 => ?_)
    have hk := hk.next h9
    have hback := fun p (e : decodeM t = (p, true)) => encode_decode e
    clear hd3 ha3
    generalize decodeM t = dt at *
    obtain ⟨p, r⟩ := dt
    cases r with
    | true =>
      have hb := hback p rfl
      simp only
      rw [hb]
      repeat (any_goals (first
      | (with_reducible first|refine pureM_in ?_|((refine idGd ?_); first|refine zA ?_|refine zC ?_|refine zD ?_)|((refine idPick ?_); first|refine yB ?_|refine yC ?_)|((refine idCond ?_); refine yM ?_))
      | ((with_reducible refine idO ?_); (with_reducible refine oM_gen fun Kv hK=>?_); simp [go_sem, hk.cells]; refine hK _ _ ?_; clear hK; clear Kv)))
      refine Text_ok a (hga.next (atOf_stay cls_vstay) hk.below) hla (hl.below hk.below hl.size).toLaid (fun wb hb => ?_)
      have hk := hk.next hb
      repeat (any_goals (with_reducible first|refine pureM_in ?_|((refine idGd ?_); refine zA ?_)))
      refine Text_ok b (hgb.next (atOf_stay cls_vstay) hk.below) hlb (hl.below hk.below hl.size).toLaid (fun wc hc => ?_)
      have hk := hk.next hc
      repeat (any_goals (with_reducible ((refine idGd ?_); refine zA ?_)))
      refine sameGoal_ok (hga.next (atOf_stay cls_vstay) hk.below) (hgb.next (atOf_stay cls_vstay) hk.below) (fun wd hd => ?_)
      have hk := hk.next hd
      have k := k _ hk.below
      by_cases hab : a = b
      · have hab2 : textM a = textM b := by rw [hab]
        rw [decide_eq_true hab]
        repeat (any_goals (first
        | (with_reducible first|((refine idGd ?_); refine zA ?_)|((refine idPick ?_); refine yB ?_))
        | ((with_reducible refine idO ?_); (with_reducible refine oM_gen fun Kv hK=>?_); simp [go_sem, hab2]; refine hK _ _ ?_; clear hK; clear Kv)))
        exact k
      · have hab2 : ¬ textM a = textM b := fun e => hab ((text_inj (by omega) (by omega) (goal_in hga) (goal_in hgb)).1 e)
        rw [decide_eq_false hab]
        repeat (any_goals (first
        | (with_reducible first|((refine idGd ?_); refine zA ?_)|((refine idPick ?_); refine yB ?_))
        | ((with_reducible refine idO ?_); (with_reducible refine oM_gen fun Kv hK=>?_); simp [go_sem, hab2]; refine hK _ _ ?_; clear hK; clear Kv)))
        exact k
    | false =>
      repeat (any_goals (first
      | (with_reducible first|refine pureM_in ?_|((refine idGd ?_); first|refine zA ?_|refine zB ?_|refine zD ?_|refine zE ?_)|((refine idPick ?_); first|refine yB ?_|refine yC ?_)|((refine idCond ?_); refine yM ?_))
      | ((with_reducible refine idO ?_); (with_reducible refine oM_gen fun Kv hK=>?_); simp [go_sem, hk.cells]; refine hK _ _ ?_; clear hK; clear Kv)))
      refine Text_ok a (hga.next (atOf_stay cls_vstay) hk.below) hla (hl.below hk.below hl.size).toLaid (fun wb hb => ?_)
      have hk := hk.next hb
      repeat (any_goals (with_reducible first|refine pureM_in ?_|((refine idGd ?_); refine zA ?_)))
      refine Text_ok b (hgb.next (atOf_stay cls_vstay) hk.below) hlb (hl.below hk.below hl.size).toLaid (fun wc hc => ?_)
      have hk := hk.next hc
      repeat (any_goals (with_reducible ((refine idGd ?_); refine zA ?_)))
      refine sameGoal_ok (hga.next (atOf_stay cls_vstay) hk.below) (hgb.next (atOf_stay cls_vstay) hk.below) (fun wd hd => ?_)
      have hk := hk.next hd
      have k := k _ hk.below
      by_cases hab : a = b
      · have hab2 : textM a = textM b := by rw [hab]
        rw [decide_eq_true hab]
        repeat (any_goals (first
        | (with_reducible first|((refine idGd ?_); refine zA ?_)|((refine idPick ?_); refine yB ?_))
        | ((with_reducible refine idO ?_); (with_reducible refine oM_gen fun Kv hK=>?_); simp [go_sem, hab2]; refine hK _ _ ?_; clear hK; clear Kv)))
        exact k
      · have hab2 : ¬ textM a = textM b := fun e => hab ((text_inj (by omega) (by omega) (goal_in hga) (goal_in hgb)).1 e)
        rw [decide_eq_false hab]
        repeat (any_goals (first
        | (with_reducible first|((refine idGd ?_); refine zA ?_)|((refine idPick ?_); refine yB ?_))
        | ((with_reducible refine idO ?_); (with_reducible refine oM_gen fun Kv hK=>?_); simp [go_sem, hab2]; refine hK _ _ ?_; clear hK; clear Kv)))
        exact k
  | false =>
    obtain rfl := hxe hev
    repeat (any_goals (with_reducible first|((refine idGd ?_); first|refine zB ?_|refine zE ?_)|((refine idPick ?_); refine yC ?_)|((refine idCond ?_); refine yM ?_)))
    refine Decode_ok t (by omega) (hl.below hk.below hl.size) (fun w8 dv3 av3 h8 hd3 ha3 => ?_)
    have hk := hk.next h8
    obtain ⟨dad3, dc3, rfl⟩ := id hd3.isSlice
    obtain ⟨aad3, ac3, rfl⟩ := id ha3.isSlice
    iterate 2 (any_goals ((with_reducible refine idO ?_); (with_reducible refine oM_gen fun Kv hK=>?_); simp [go_sem]; refine hK _ _ ?_; clear hK; clear Kv))
    refine local_prf _ _ _ _ _ _ hk (fun b3 W8 hk hb3 hg3 => ?_)
    have hd3 := hd3.next (atOf_stay ints_stay) hb3
    have ha3 := ha3.next (atOf_stay lists_vstay) hb3
    repeat (any_goals ((with_reducible refine idO ?_); (with_reducible refine oM_gen fun Kv hK=>?_); simp [go_sem, hk.cells]; refine hK _ _ ?_; clear hK; clear Kv))
    refine Encode_ok (decodeM t).1.1 (decodeM t).1.2 hd3 ha3 (hl.below hk.below hl.size).toLaid (decode_small (by omega)) (fun w9 h9 => ?_)
    have hk := hk.next h9
    have hback := fun p (e : decodeM t = (p, true)) => encode_decode e
    clear hd3 ha3
    generalize decodeM t = dt at *
    obtain ⟨p, r⟩ := dt
    cases r with
    | true =>
      have hb := hback p rfl
      simp only
      rw [hb]
      repeat (any_goals (first
      | (with_reducible first|refine pureM_in ?_|((refine idGd ?_); first|refine zA ?_|refine zC ?_)|((refine idPick ?_); first|refine yB ?_|refine yC ?_)|((refine idCond ?_); refine yM ?_))
      | ((with_reducible refine idO ?_); (with_reducible refine oM_gen fun Kv hK=>?_); simp [go_sem, hk.cells]; refine hK _ _ ?_; clear hK; clear Kv)))
      refine Text_ok a (hga.next (atOf_stay cls_vstay) hk.below) hla (hl.below hk.below hl.size).toLaid (fun wb hb => ?_)
      have hk := hk.next hb
      repeat (any_goals (with_reducible first|refine pureM_in ?_|((refine idGd ?_); refine zA ?_)))
      refine Text_ok b (hgb.next (atOf_stay cls_vstay) hk.below) hlb (hl.below hk.below hl.size).toLaid (fun wc hc => ?_)
      have hk := hk.next hc
      repeat (any_goals (with_reducible ((refine idGd ?_); refine zA ?_)))
      refine sameGoal_ok (hga.next (atOf_stay cls_vstay) hk.below) (hgb.next (atOf_stay cls_vstay) hk.below) (fun wd hd => ?_)
      have hk := hk.next hd
      have k := k _ hk.below
      by_cases hab : a = b
      · have hab2 : textM a = textM b := by rw [hab]
        rw [decide_eq_true hab]
        repeat (any_goals (first
        | (with_reducible first|((refine idGd ?_); refine zA ?_)|((refine idPick ?_); refine yB ?_))
        | ((with_reducible refine idO ?_); (with_reducible refine oM_gen fun Kv hK=>?_); simp [go_sem, hab2]; refine hK _ _ ?_; clear hK; clear Kv)))
        exact k
      · have hab2 : ¬ textM a = textM b := fun e => hab ((text_inj (by omega) (by omega) (goal_in hga) (goal_in hgb)).1 e)
        rw [decide_eq_false hab]
        repeat (any_goals (first
        | (with_reducible first|((refine idGd ?_); refine zA ?_)|((refine idPick ?_); refine yB ?_))
        | ((with_reducible refine idO ?_); (with_reducible refine oM_gen fun Kv hK=>?_); simp [go_sem, hab2]; refine hK _ _ ?_; clear hK; clear Kv)))
        exact k
    | false =>
      repeat (any_goals (first
      | (with_reducible first|refine pureM_in ?_|((refine idGd ?_); first|refine zA ?_|refine zB ?_|refine zC ?_|refine zE ?_)|((refine idPick ?_); first|refine yB ?_|refine yC ?_)|((refine idCond ?_); refine yM ?_))
      | ((with_reducible refine idO ?_); (with_reducible refine oM_gen fun Kv hK=>?_); simp [go_sem, hk.cells]; refine hK _ _ ?_; clear hK; clear Kv)))
      refine Text_ok a (hga.next (atOf_stay cls_vstay) hk.below) hla (hl.below hk.below hl.size).toLaid (fun wb hb => ?_)
      have hk := hk.next hb
      repeat (any_goals (with_reducible first|refine pureM_in ?_|((refine idGd ?_); refine zA ?_)))
      refine Text_ok b (hgb.next (atOf_stay cls_vstay) hk.below) hlb (hl.below hk.below hl.size).toLaid (fun wc hc => ?_)
      have hk := hk.next hc
      repeat (any_goals (with_reducible ((refine idGd ?_); refine zA ?_)))
      refine sameGoal_ok (hga.next (atOf_stay cls_vstay) hk.below) (hgb.next (atOf_stay cls_vstay) hk.below) (fun wd hd => ?_)
      have hk := hk.next hd
      have k := k _ hk.below
      by_cases hab : a = b
      · have hab2 : textM a = textM b := by rw [hab]
        rw [decide_eq_true hab]
        repeat (any_goals (first
        | (with_reducible first|((refine idGd ?_); refine zA ?_)|((refine idPick ?_); refine yB ?_))
        | ((with_reducible refine idO ?_); (with_reducible refine oM_gen fun Kv hK=>?_); simp [go_sem, hab2]; refine hK _ _ ?_; clear hK; clear Kv)))
        exact k
      · have hab2 : ¬ textM a = textM b := fun e => hab ((text_inj (by omega) (by omega) (goal_in hga) (goal_in hgb)).1 e)
        rw [decide_eq_false hab]
        repeat (any_goals (first
        | (with_reducible first|((refine idGd ?_); refine zA ?_)|((refine idPick ?_); refine yB ?_))
        | ((with_reducible refine idO ?_); (with_reducible refine oM_gen fun Kv hK=>?_); simp [go_sem, hab2]; refine hK _ _ ?_; clear hK; clear Kv)))
        exact k
end
end Go.Proofs
