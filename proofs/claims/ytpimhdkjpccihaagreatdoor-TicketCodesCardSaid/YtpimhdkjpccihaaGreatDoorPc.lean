/- Parts of the proof of the seat's statements (FdL, HTk, ShKn, TkSpec, TkA, TkB, ShKn2, TkC, ShelfI, TkD, TkE): lemmas about the given translation and plain laws. No condition of their own. -/
import Derived.Test.YtpimhdkjpccihaaGreatDoorPb
import Derived.Test.YtpimhdkjpccihaaGreatDoorProg
import Derived.Shelf.Spec.SlicesInsertGrow
set_option linter.all false
--G
namespace Go.Proofs
open Go Go.Sh Go.RowKit FdSpec
set_option linter.unusedSimpArgs false
set_option linter.unusedVariables false
set_option maxRecDepth 10000
section
variable {K : Value → World → Prop} {w : World}
def PdJ (g : Grp) (R : Int) (ps : List (Int × Int)) (W : World) (l : List Value) (w' : World) : Prop := Below W.heap.size W w' ∧ ∃ (v u : Value) (o : Int) (i : Nat), l = [v, u, .int .i64 o, .int .i64 (i : Int)] ∧ i ≤ ps.length ∧ prodL g o (ps.drop i) = R
def pdMu (n : Nat) (l : List Value) (_ : World) : Nat := match l with | [_, _, _, .int _ i] => n - i.toNat | _ => 0
theorem pdMu_eq (n : Nat) (x y z : Value) (q : IntKind) (i : Int) (w : World) : pdMu n [x, y, z, .int q i] w = n - i.toNat := rfl
theorem zip_drop (a b : List Int) (i : Nat) (h1 : i < a.length) (h2 : i < b.length) : (a.zip b).drop i = (a[i], b[i]) :: (a.zip b).drop (i + 1) := by
  rw [List.drop_eq_getElem_cons (by rw [List.length_zip]; omega), List.getElem_zip]
@[go_sem] theorem oM_index_ints (T : TypeId) (b o n c : Nat) (x : Int) : oM Tryz.prog (.indexAddr 22 (.tmp 0) (.tmp 1)) T [.slice (some ⟨b, o, none⟩) n c, .int .i64 x] = onM (0 ≤ x ∧ x < n) (.pointer (some ⟨b, o + x.toNat, none⟩)) := by
  funext K w
  rw [oM_indexAddr, run_indexAt_slice (h := by kernel_rfl)]
  have hs : (sizeOf (Tryz.prog.elem 22)).run Tryz.prog w = .ok 1 w := by kernel_rfl
  by_cases hi : 0 ≤ x ∧ x < n
  · rw [if_pos hi, hs]
    simp only [Result.andThen, add_none, Nat.mul_one, rM_ok]
    exact propext ⟨fun h => ⟨hi, h⟩, fun h => h.2⟩
  · rw [if_neg hi]
    obtain ⟨e', w', he⟩ := halts Value Tryz.prog .i64 x n .index w
    rw [he]
    exact propext ⟨fun h => h.elim, fun h => hi h.1⟩
theorem Product_ok (g : Grp) {bv ev : Value} {bs es : List Int} (hbs : Ints w bv bs) (hes : Ints w ev es) (k : ∀ w', Below w.heap.size w w' → K (.tuple #[.int .i64 (prodG g bs es).1, .bool (prodG g bs es).2]) w') : callM Tryz.prog 38 #[grpV g, bv, ev] K w := by
  apply sh_38_ok
  unfold sh_38
  refine box_grp g fun b W hW hb c0 c1 c2 => ?_
  have hr := Below.refl W.heap.size W
  have k2 : ∀ w' v, prodG g bs es = v → Below W.heap.size W w' → K (.tuple #[.int .i64 v.1, .bool v.2]) w' := fun w' v e hb => by rw [← e]; exact k w' (hW.on hb)
  clear k
  obtain ⟨bad, bc, rfl⟩ := hbs.isSlice
  obtain ⟨ead, ec, rfl⟩ := hes.isSlice
  have hbs := hbs.next hW
  have hes := hes.next hW
  have l1 := hbs.len
  have l2 := hes.len
  repeat (any_goals (first
  | (with_reducible first|refine pureM_in ?_|((refine idGd ?_); first|refine zA ?_|refine zB ?_|refine zC ?_|refine zD ?_|refine zE ?_|((refine idGdD ?_); first|refine zF ?_|refine zG ?_|refine zH (fun hg=>?_) fun hg=>?_|refine zI ?_|refine zJ ?_|refine zK (fun hg=>?_) fun hg=>?_)|((refine idGdN ?_); first|refine zL ?_|refine zM ?_|refine zN (fun hg=>?_) fun hg=>?_|refine zO ?_|refine zP ?_|refine zQ (fun hg=>?_) fun hg=>?_)|refine zR ?_|refine zS ?_|refine zT ?_|refine zU ?_|refine zV ?_|refine zW ?_|refine zX (fun hg=>?_) fun hg=>?_|refine zY ?_|refine zZ ?_|refine yA (fun hg=>?_) fun hg=>?_)|((refine idPick ?_); first|refine yB ?_|refine yC ?_|refine yD ?_|refine yE ?_|refine yF ?_|refine yG ?_|refine yH ?_|refine yI ?_|refine yJ ?_|refine yK ?_)|((refine idCond ?_); first|refine yL ?_|refine yM ?_|refine yN ?_|refine yO ?_|refine yP (fun hg=>?_) fun hg=>?_|refine yQ ?_|refine yR ?_|refine yS (fun hg=>?_) fun hg=>?_|refine yT ?_|refine yU ?_|refine yV (fun hg=>?_) fun hg=>?_|refine yW ?_|refine yX ?_|refine yY (fun hg=>?_) fun hg=>?_))
  | ((with_reducible refine idO ?_); (with_reducible refine oM_gen fun Kv hK=>?_); simp [go_sem, c0, c1, c2, hr]; (try simp (disch := omega) only [wrapI64, wrapU8, wrapU32, wrapU64]); (first|refine hK _ _ ?_|refine And.intro (by omega) (hK _ _ ?_)); clear hK; clear Kv)))
  refine valid_ok g.P ?_
  by_cases hp : okN g.P
  · by_cases hq : okN g.Q
    · repeat (any_goals (first
      | (with_reducible first|refine pureM_in ?_|((refine idGd ?_); first|refine zA ?_|refine zB ?_|refine zC ?_|refine zD ?_|refine zE ?_|((refine idGdD ?_); first|refine zF ?_|refine zG ?_|refine zH (fun hg=>?_) fun hg=>?_|refine zI ?_|refine zJ ?_|refine zK (fun hg=>?_) fun hg=>?_)|((refine idGdN ?_); first|refine zL ?_|refine zM ?_|refine zN (fun hg=>?_) fun hg=>?_|refine zO ?_|refine zP ?_|refine zQ (fun hg=>?_) fun hg=>?_)|refine zR ?_|refine zS ?_|refine zT ?_|refine zU ?_|refine zV ?_|refine zW ?_|refine zX (fun hg=>?_) fun hg=>?_|refine zY ?_|refine zZ ?_|refine yA (fun hg=>?_) fun hg=>?_)|((refine idPick ?_); first|refine yB ?_|refine yC ?_|refine yD ?_|refine yE ?_|refine yF ?_|refine yG ?_|refine yH ?_|refine yI ?_|refine yJ ?_|refine yK ?_)|((refine idCond ?_); first|refine yL ?_|refine yM ?_|refine yN ?_|refine yO ?_|refine yP (fun hg=>?_) fun hg=>?_|refine yQ ?_|refine yR ?_|refine yS (fun hg=>?_) fun hg=>?_|refine yT ?_|refine yU ?_|refine yV (fun hg=>?_) fun hg=>?_|refine yW ?_|refine yX ?_|refine yY (fun hg=>?_) fun hg=>?_))
      | ((with_reducible refine idO ?_); (with_reducible refine oM_gen fun Kv hK=>?_); simp [go_sem, c0, c1, c2, hr]; (try simp (disch := omega) only [wrapI64, wrapU8, wrapU32, wrapU64]); (first|refine hK _ _ ?_|refine And.intro (by omega) (hK _ _ ?_)); clear hK; clear Kv)))
      refine valid_ok g.Q ?_
      by_cases hl : bs.length = es.length
      · have e1 : (1 : Int).tmod g.P = 1 % g.P := Int.tmod_eq_emod_of_nonneg (by omega)
        have hp0 := hp.1
        have e0 : prodG g bs es = (prodL g (1 % g.P) (bs.zip es), true) := by unfold prodG; rw [if_pos ⟨hp, hq, hl⟩]
        have hzl : (bs.zip es).length = bs.length := by rw [List.length_zip]; omega
        repeat (any_goals (first
        | (with_reducible first|refine pureM_in ?_|((refine idGd ?_); first|refine zA ?_|refine zB ?_|refine zC ?_|refine zD ?_|refine zE ?_|((refine idGdD ?_); first|refine zF ?_|refine zG ?_|refine zH (fun hg=>?_) fun hg=>?_|refine zI ?_|refine zJ ?_|refine zK (fun hg=>?_) fun hg=>?_)|((refine idGdN ?_); first|refine zL ?_|refine zM ?_|refine zN (fun hg=>?_) fun hg=>?_|refine zO ?_|refine zP ?_|refine zQ (fun hg=>?_) fun hg=>?_)|refine zR ?_|refine zS ?_|refine zT ?_|refine zU ?_|refine zV ?_|refine zW ?_|refine zX (fun hg=>?_) fun hg=>?_|refine zY ?_|refine zZ ?_|refine yA (fun hg=>?_) fun hg=>?_)|((refine idPick ?_); first|refine yB ?_|refine yC ?_|refine yD ?_|refine yE ?_|refine yF ?_|refine yG ?_|refine yH ?_|refine yI ?_|refine yJ ?_|refine yK ?_)|((refine idCond ?_); first|refine yL ?_|refine yM ?_|refine yN ?_|refine yO ?_|refine yP (fun hg=>?_) fun hg=>?_|refine yQ ?_|refine yR ?_|refine yS (fun hg=>?_) fun hg=>?_|refine yT ?_|refine yU ?_|refine yV (fun hg=>?_) fun hg=>?_|refine yW ?_|refine yX ?_|refine yY (fun hg=>?_) fun hg=>?_))
        | ((with_reducible refine idO ?_); (with_reducible refine oM_gen fun Kv hK=>?_); simp [go_sem, c0, c1, c2, hr, hl, e1]; (try simp (disch := omega) only [wrapI64, wrapU8, wrapU32, wrapU64]); (first|refine hK _ _ ?_|refine And.intro (by omega) (hK _ _ ?_)); clear hK; clear Kv)))
        refine ⟨PdJ g (prodL g (1 % g.P) (bs.zip es)) (bs.zip es) W, pdMu es.length, ⟨hr, _, _, _, 0, rfl, by omega, rfl⟩, ?_⟩
        generalize prodL g (1 % g.P) (bs.zip es) = R at *
        rintro _ _ w1 ⟨h1, v, u, o, i, rfl, hi, he⟩
        rw [hzl] at hi
        by_cases hin : i = es.length
        · rw [List.drop_of_length_le (by omega)] at he
          unfold prodL at he
          repeat (any_goals (first
          | (with_reducible first|refine pureM_in ?_|((refine idGd ?_); first|refine zA ?_|refine zB ?_|refine zC ?_|refine zD ?_|refine zE ?_|((refine idGdD ?_); first|refine zF ?_|refine zG ?_|refine zH (fun hg=>?_) fun hg=>?_|refine zI ?_|refine zJ ?_|refine zK (fun hg=>?_) fun hg=>?_)|((refine idGdN ?_); first|refine zL ?_|refine zM ?_|refine zN (fun hg=>?_) fun hg=>?_|refine zO ?_|refine zP ?_|refine zQ (fun hg=>?_) fun hg=>?_)|refine zR ?_|refine zS ?_|refine zT ?_|refine zU ?_|refine zV ?_|refine zW ?_|refine zX (fun hg=>?_) fun hg=>?_|refine zY ?_|refine zZ ?_|refine yA (fun hg=>?_) fun hg=>?_)|((refine idPick ?_); first|refine yB ?_|refine yC ?_|refine yD ?_|refine yE ?_|refine yF ?_|refine yG ?_|refine yH ?_|refine yI ?_|refine yJ ?_|refine yK ?_)|((refine idCond ?_); first|refine yL ?_|refine yM ?_|refine yN ?_|refine yO ?_|refine yP (fun hg=>?_) fun hg=>?_|refine yQ ?_|refine yR ?_|refine yS (fun hg=>?_) fun hg=>?_|refine yT ?_|refine yU ?_|refine yV (fun hg=>?_) fun hg=>?_|refine yW ?_|refine yX ?_|refine yY (fun hg=>?_) fun hg=>?_))
          | ((with_reducible refine idO ?_); (with_reducible refine oM_gen fun Kv hK=>?_); simp [go_sem]; (try simp (disch := omega) only [wrapI64, wrapU8, wrapU32, wrapU64]); (first|refine hK _ _ ?_|refine And.intro (by omega) (hK _ _ ?_)); clear hK; clear Kv)))
          rw [he]
          exact k2 _ _ e0 h1
        · rw [zip_drop bs es i (by omega) (by omega)] at he
          unfold prodL at he
          obtain ⟨b1, o1, rfl, hb1, ca, ra, _⟩ := hbs.at (i := i) (by omega)
          obtain ⟨b2, o2, rfl, hb2, cb, rb, _⟩ := hes.at (i := i) (by omega)
          repeat (any_goals (first
          | (with_reducible first|refine pureM_in ?_|((refine idGd ?_); first|refine zA ?_|refine zB ?_|refine zC ?_|refine zD ?_|refine zE ?_|((refine idGdD ?_); first|refine zF ?_|refine zG ?_|refine zH (fun hg=>?_) fun hg=>?_|refine zI ?_|refine zJ ?_|refine zK (fun hg=>?_) fun hg=>?_)|((refine idGdN ?_); first|refine zL ?_|refine zM ?_|refine zN (fun hg=>?_) fun hg=>?_|refine zO ?_|refine zP ?_|refine zQ (fun hg=>?_) fun hg=>?_)|refine zR ?_|refine zS ?_|refine zT ?_|refine zU ?_|refine zV ?_|refine zW ?_|refine zX (fun hg=>?_) fun hg=>?_|refine zY ?_|refine zZ ?_|refine yA (fun hg=>?_) fun hg=>?_)|((refine idPick ?_); first|refine yB ?_|refine yC ?_|refine yD ?_|refine yE ?_|refine yF ?_|refine yG ?_|refine yH ?_|refine yI ?_|refine yJ ?_|refine yK ?_)|((refine idCond ?_); first|refine yL ?_|refine yM ?_|refine yN ?_|refine yO ?_|refine yP (fun hg=>?_) fun hg=>?_|refine yQ ?_|refine yR ?_|refine yS (fun hg=>?_) fun hg=>?_|refine yT ?_|refine yU ?_|refine yV (fun hg=>?_) fun hg=>?_|refine yW ?_|refine yX ?_|refine yY (fun hg=>?_) fun hg=>?_))
          | ((with_reducible refine idO ?_); (with_reducible refine oM_gen fun Kv hK=>?_); simp [go_sem, ca _ h1, c0, h1]; (try simp (disch := omega) only [wrapI64, wrapU8, wrapU32, wrapU64]); (first|refine hK _ _ ?_|refine And.intro (by omega) (hK _ _ ?_)); clear hK; clear Kv)))
          refine ⟨Below W.heap.size W, h1.trans .drawn, ?_⟩
          repeat (any_goals (first
          | (with_reducible first|refine pureM_in ?_|refine pureQ_in ?_|refine pureH_in ?_|((refine idGdQ ?_); refine gdQ_conv fun _=>?_)|((refine idGdH ?_); refine gdH_conv fun _=>?_)|refine And.intro (Eq.refl (α := World) _) ?_|refine forall_one ?_|((refine idGd ?_); first|refine zA ?_|refine zB ?_|refine zC ?_|refine zD ?_|refine zE ?_|((refine idGdD ?_); first|refine zF ?_|refine zG ?_|refine zH (fun hg=>?_) fun hg=>?_|refine zI ?_|refine zJ ?_|refine zK (fun hg=>?_) fun hg=>?_)|((refine idGdN ?_); first|refine zL ?_|refine zM ?_|refine zN (fun hg=>?_) fun hg=>?_|refine zO ?_|refine zP ?_|refine zQ (fun hg=>?_) fun hg=>?_)|refine zR ?_|refine zS ?_|refine zT ?_|refine zU ?_|refine zV ?_|refine zW ?_|refine zX (fun hg=>?_) fun hg=>?_|refine zY ?_|refine zZ ?_|refine yA (fun hg=>?_) fun hg=>?_)|((refine idPick ?_); first|refine yB ?_|refine yC ?_|refine yD ?_|refine yE ?_|refine yF ?_|refine yG ?_|refine yH ?_|refine yI ?_|refine yJ ?_|refine yK ?_)|((refine idCond ?_); first|refine yL ?_|refine yM ?_|refine yN ?_|refine yO ?_|refine yP (fun hg=>?_) fun hg=>?_|refine yQ ?_|refine yR ?_|refine yS (fun hg=>?_) fun hg=>?_|refine yT ?_|refine yU ?_|refine yV (fun hg=>?_) fun hg=>?_|refine yW ?_|refine yX ?_|refine yY (fun hg=>?_) fun hg=>?_))
          | ((with_reducible refine idOQ ?_); first|(with_reducible first|refine wA ?_|refine wB ?_|refine wC ?_|refine wD ?_|refine wE ?_|refine wF ?_|refine oQ_nil ?_)|((with_reducible refine oQ_one ?_ ?_); exact ⟨_, rfl⟩)|(with_reducible refine oQ_of ⟨_, rfl⟩ (fun W0 hW0 => by (refine oM_gen (fun Kv hK => ?_)); simp [go_sem, c0 _ hW0, c1 _ hW0, c2 _ hW0, cb _ hW0]; (first | exact hK _ _ ⟨rfl, rfl⟩ | exact ⟨by omega, hK _ _ ⟨rfl, rfl⟩⟩)) ?_))
          | ((with_reducible refine idOH ?_); first|(with_reducible first|refine vA ?_|refine vB ?_|refine vC ?_|refine vD ?_|refine vE ?_|refine vF ?_|refine oH_nil ?_)|(with_reducible refine oH_of ⟨_, rfl⟩ (fun W0 hW0 => by (refine oM_gen (fun Kv hK => ?_)); simp [go_sem, c0 _ hW0, c1 _ hW0, c2 _ hW0, cb _ hW0]; (first | exact hK _ _ ⟨rfl, rfl⟩ | exact ⟨by omega, hK _ _ ⟨rfl, rfl⟩⟩)) ?_))
          | ((with_reducible refine idO ?_); (with_reducible refine oM_gen fun Kv hK=>?_); simp [go_sem]; (try simp (disch := omega) only [wrapI64, wrapU8, wrapU32, wrapU64]); (first|refine hK _ _ ?_|refine And.intro (by omega) (hK _ _ ?_)); clear hK; clear Kv)))
          refine callQ_of (fun W0 hW0 => Power_ok g _ _ (fun w' hw' => ⟨rfl, hW0.on hw'⟩)) ?_
          refine callQ_of (fun W0 hW0 => Mul_ok _ _ _ (fun w' hw' => ⟨rfl, hW0.on hw'⟩)) ?_
          intro w2 h2
          repeat (any_goals (first
          | (with_reducible first|refine pureM_in ?_|((refine idGd ?_); first|refine zA ?_|refine zB ?_|refine zC ?_|refine zD ?_|refine zE ?_|((refine idGdD ?_); first|refine zF ?_|refine zG ?_|refine zH (fun hg=>?_) fun hg=>?_|refine zI ?_|refine zJ ?_|refine zK (fun hg=>?_) fun hg=>?_)|((refine idGdN ?_); first|refine zL ?_|refine zM ?_|refine zN (fun hg=>?_) fun hg=>?_|refine zO ?_|refine zP ?_|refine zQ (fun hg=>?_) fun hg=>?_)|refine zR ?_|refine zS ?_|refine zT ?_|refine zU ?_|refine zV ?_|refine zW ?_|refine zX (fun hg=>?_) fun hg=>?_|refine zY ?_|refine zZ ?_|refine yA (fun hg=>?_) fun hg=>?_)|((refine idPick ?_); first|refine yB ?_|refine yC ?_|refine yD ?_|refine yE ?_|refine yF ?_|refine yG ?_|refine yH ?_|refine yI ?_|refine yJ ?_|refine yK ?_)|((refine idCond ?_); first|refine yL ?_|refine yM ?_|refine yN ?_|refine yO ?_|refine yP (fun hg=>?_) fun hg=>?_|refine yQ ?_|refine yR ?_|refine yS (fun hg=>?_) fun hg=>?_|refine yT ?_|refine yU ?_|refine yV (fun hg=>?_) fun hg=>?_|refine yW ?_|refine yX ?_|refine yY (fun hg=>?_) fun hg=>?_))
          | ((with_reducible refine idO ?_); (with_reducible refine oM_gen fun Kv hK=>?_); simp [go_sem]; (try simp (disch := omega) only [wrapI64, wrapU8, wrapU32, wrapU64]); (first|refine hK _ _ ?_|refine And.intro (by omega) (hK _ _ ?_)); clear hK; clear Kv)))
          refine ⟨⟨h2, _, _, _, i + 1, rfl, by rw [hzl]; omega, he⟩, ?_⟩
          simp only [pdMu_eq]; omega
      · have e0 : prodG g bs es = (0, false) := by unfold prodG; rw [if_neg (fun h => hl h.2.2)]
        have hl' : ¬ (bs.length : Int) = es.length := by omega
        repeat (any_goals (first
        | (with_reducible first|refine pureM_in ?_|((refine idGd ?_); first|refine zA ?_|refine zB ?_|refine zC ?_|refine zD ?_|refine zE ?_|((refine idGdD ?_); first|refine zF ?_|refine zG ?_|refine zH (fun hg=>?_) fun hg=>?_|refine zI ?_|refine zJ ?_|refine zK (fun hg=>?_) fun hg=>?_)|((refine idGdN ?_); first|refine zL ?_|refine zM ?_|refine zN (fun hg=>?_) fun hg=>?_|refine zO ?_|refine zP ?_|refine zQ (fun hg=>?_) fun hg=>?_)|refine zR ?_|refine zS ?_|refine zT ?_|refine zU ?_|refine zV ?_|refine zW ?_|refine zX (fun hg=>?_) fun hg=>?_|refine zY ?_|refine zZ ?_|refine yA (fun hg=>?_) fun hg=>?_)|((refine idPick ?_); first|refine yB ?_|refine yC ?_|refine yD ?_|refine yE ?_|refine yF ?_|refine yG ?_|refine yH ?_|refine yI ?_|refine yJ ?_|refine yK ?_)|((refine idCond ?_); first|refine yL ?_|refine yM ?_|refine yN ?_|refine yO ?_|refine yP (fun hg=>?_) fun hg=>?_|refine yQ ?_|refine yR ?_|refine yS (fun hg=>?_) fun hg=>?_|refine yT ?_|refine yU ?_|refine yV (fun hg=>?_) fun hg=>?_|refine yW ?_|refine yX ?_|refine yY (fun hg=>?_) fun hg=>?_))
        | ((with_reducible refine idO ?_); (with_reducible refine oM_gen fun Kv hK=>?_); simp [go_sem, c0, c1, c2, hr, hl']; (try simp (disch := omega) only [wrapI64, wrapU8, wrapU32, wrapU64]); (first|refine hK _ _ ?_|refine And.intro (by omega) (hK _ _ ?_)); clear hK; clear Kv)))
        exact k2 _ _ e0 hr
    · have e0 : prodG g bs es = (0, false) := by unfold prodG; rw [if_neg (fun h => hq h.2.1)]
      repeat (any_goals (first
      | (with_reducible first|refine pureM_in ?_|((refine idGd ?_); first|refine zA ?_|refine zB ?_|refine zC ?_|refine zD ?_|refine zE ?_|((refine idGdD ?_); first|refine zF ?_|refine zG ?_|refine zH (fun hg=>?_) fun hg=>?_|refine zI ?_|refine zJ ?_|refine zK (fun hg=>?_) fun hg=>?_)|((refine idGdN ?_); first|refine zL ?_|refine zM ?_|refine zN (fun hg=>?_) fun hg=>?_|refine zO ?_|refine zP ?_|refine zQ (fun hg=>?_) fun hg=>?_)|refine zR ?_|refine zS ?_|refine zT ?_|refine zU ?_|refine zV ?_|refine zW ?_|refine zX (fun hg=>?_) fun hg=>?_|refine zY ?_|refine zZ ?_|refine yA (fun hg=>?_) fun hg=>?_)|((refine idPick ?_); first|refine yB ?_|refine yC ?_|refine yD ?_|refine yE ?_|refine yF ?_|refine yG ?_|refine yH ?_|refine yI ?_|refine yJ ?_|refine yK ?_)|((refine idCond ?_); first|refine yL ?_|refine yM ?_|refine yN ?_|refine yO ?_|refine yP (fun hg=>?_) fun hg=>?_|refine yQ ?_|refine yR ?_|refine yS (fun hg=>?_) fun hg=>?_|refine yT ?_|refine yU ?_|refine yV (fun hg=>?_) fun hg=>?_|refine yW ?_|refine yX ?_|refine yY (fun hg=>?_) fun hg=>?_))
      | ((with_reducible refine idO ?_); (with_reducible refine oM_gen fun Kv hK=>?_); simp [go_sem, c0, c1, c2, hr]; (try simp (disch := omega) only [wrapI64, wrapU8, wrapU32, wrapU64]); (first|refine hK _ _ ?_|refine And.intro (by omega) (hK _ _ ?_)); clear hK; clear Kv)))
      refine valid_ok g.Q ?_
      repeat (any_goals (first
      | (with_reducible first|refine pureM_in ?_|((refine idGd ?_); first|refine zA ?_|refine zB ?_|refine zC ?_|refine zD ?_|refine zE ?_|((refine idGdD ?_); first|refine zF ?_|refine zG ?_|refine zH (fun hg=>?_) fun hg=>?_|refine zI ?_|refine zJ ?_|refine zK (fun hg=>?_) fun hg=>?_)|((refine idGdN ?_); first|refine zL ?_|refine zM ?_|refine zN (fun hg=>?_) fun hg=>?_|refine zO ?_|refine zP ?_|refine zQ (fun hg=>?_) fun hg=>?_)|refine zR ?_|refine zS ?_|refine zT ?_|refine zU ?_|refine zV ?_|refine zW ?_|refine zX (fun hg=>?_) fun hg=>?_|refine zY ?_|refine zZ ?_|refine yA (fun hg=>?_) fun hg=>?_)|((refine idPick ?_); first|refine yB ?_|refine yC ?_|refine yD ?_|refine yE ?_|refine yF ?_|refine yG ?_|refine yH ?_|refine yI ?_|refine yJ ?_|refine yK ?_)|((refine idCond ?_); first|refine yL ?_|refine yM ?_|refine yN ?_|refine yO ?_|refine yP (fun hg=>?_) fun hg=>?_|refine yQ ?_|refine yR ?_|refine yS (fun hg=>?_) fun hg=>?_|refine yT ?_|refine yU ?_|refine yV (fun hg=>?_) fun hg=>?_|refine yW ?_|refine yX ?_|refine yY (fun hg=>?_) fun hg=>?_))
      | ((with_reducible refine idO ?_); (with_reducible refine oM_gen fun Kv hK=>?_); simp [go_sem, c0, c1, c2, hr]; (try simp (disch := omega) only [wrapI64, wrapU8, wrapU32, wrapU64]); (first|refine hK _ _ ?_|refine And.intro (by omega) (hK _ _ ?_)); clear hK; clear Kv)))
      exact k2 _ _ e0 hr
  · have e0 : prodG g bs es = (0, false) := by unfold prodG; rw [if_neg (fun h => hp h.1)]
    repeat (any_goals (first
    | (with_reducible first|refine pureM_in ?_|((refine idGd ?_); first|refine zA ?_|refine zB ?_|refine zC ?_|refine zD ?_|refine zE ?_|((refine idGdD ?_); first|refine zF ?_|refine zG ?_|refine zH (fun hg=>?_) fun hg=>?_|refine zI ?_|refine zJ ?_|refine zK (fun hg=>?_) fun hg=>?_)|((refine idGdN ?_); first|refine zL ?_|refine zM ?_|refine zN (fun hg=>?_) fun hg=>?_|refine zO ?_|refine zP ?_|refine zQ (fun hg=>?_) fun hg=>?_)|refine zR ?_|refine zS ?_|refine zT ?_|refine zU ?_|refine zV ?_|refine zW ?_|refine zX (fun hg=>?_) fun hg=>?_|refine zY ?_|refine zZ ?_|refine yA (fun hg=>?_) fun hg=>?_)|((refine idPick ?_); first|refine yB ?_|refine yC ?_|refine yD ?_|refine yE ?_|refine yF ?_|refine yG ?_|refine yH ?_|refine yI ?_|refine yJ ?_|refine yK ?_)|((refine idCond ?_); first|refine yL ?_|refine yM ?_|refine yN ?_|refine yO ?_|refine yP (fun hg=>?_) fun hg=>?_|refine yQ ?_|refine yR ?_|refine yS (fun hg=>?_) fun hg=>?_|refine yT ?_|refine yU ?_|refine yV (fun hg=>?_) fun hg=>?_|refine yW ?_|refine yX ?_|refine yY (fun hg=>?_) fun hg=>?_))
    | ((with_reducible refine idO ?_); (with_reducible refine oM_gen fun Kv hK=>?_); simp [go_sem, c0, c1, c2, hr]; (try simp (disch := omega) only [wrapI64, wrapU8, wrapU32, wrapU64]); (first|refine hK _ _ ?_|refine And.intro (by omega) (hK _ _ ?_)); clear hK; clear Kv)))
    exact k2 _ _ e0 hr
end
end Go.Proofs
set_option linter.unusedVariables false
set_option maxRecDepth 100000
namespace Go.Proofs
open Go.Sh
/-- cloak/ticket.Use -/
def sh_13 (a0 : Value) (a1 : Value) (a2 : Value) (a3 : Value) (K : Value → World → Prop) (w : World) : Prop :=
 oM Tryz.prog (Go.Op.box 35 (.tmp 0)) 0 [a0] (fun v4_1 w =>
 oM Tryz.prog (Go.Op.box 28 (.tmp 0)) 0 [a2] (fun v6_2 w =>
 oM Tryz.prog (Go.Op.alloc 47) 0 [] (fun v8_3 w =>
 oM Tryz.prog (Go.Op.load 35 (.tmp 0)) 35 [v4_1] (fun v17_4 w =>
 callM Tryz.prog 70 #[v17_4, a1] (fun v19_5 w =>
 oM Tryz.prog (Go.Op.extract (.tmp 0) 0) 111 [v19_5] (fun v20_6 w =>
 oM Tryz.prog (Go.Op.extract (.tmp 0) 1) 3 [v19_5] (fun v21_7 w =>
 oM Tryz.prog (Go.Op.extract (.tmp 0) 2) 4 [v19_5] (fun v22_8 w =>
 oM Tryz.prog (Go.Op.alloc 111) 0 [] (fun v10_9 w =>
 oM Tryz.prog (Go.Op.store 111 (.tmp 0) (.tmp 1)) 0 [v10_9, v20_6] (fun _ w =>
 oM Tryz.prog (Go.Op.unOp Go.UnOp.not 4 (.tmp 0)) 4 [v22_8] (fun v24_10 w =>
 gdM (gd v24_10 false) (oM Tryz.prog (Go.Op.load 111 (.tmp 0)) 111 [v10_9]) (fun v26_11 w =>
 gdM (gd v24_10 false) (oM Tryz.prog (Go.Op.load 28 (.tmp 0)) 28 [v6_2]) (fun v27_12 w =>
 gdM (gd v24_10 false) (callM Tryz.prog 71 #[v26_11, v27_12]) (fun v28_13 w =>
 gdM (gd v24_10 false) (oM Tryz.prog (Go.Op.unOp Go.UnOp.not 4 (.tmp 0)) 4 [v28_13]) (fun v29_14 w =>
 oM Tryz.prog (Go.Op.pick (.tmp 0) (.tmp 1) (.tmp 2)) 4 [v24_10, (.bool true), v29_14] (fun v30_15 w =>
 gdM (gd v30_15 false) (oM Tryz.prog (Go.Op.load 111 (.tmp 0)) 111 [v10_9]) (fun v32_16 w =>
 gdM (gd v30_15 false) (pureM a3) (fun v33_17 w =>
 gdM (gd v30_15 false) (oM Tryz.prog (Go.Op.buildSlice 22 1 #[(0, (.tmp 0))]) 22 [v33_17]) (fun v34_18 w =>
 gdM (gd v30_15 false) (callM Tryz.prog 72 #[v32_16, (.int .i64 1), v34_18]) (fun v35_19 w =>
 gdM (gd v30_15 false) (oM Tryz.prog (Go.Op.unOp Go.UnOp.not 4 (.tmp 0)) 4 [v35_19]) (fun v36_20 w =>
 oM Tryz.prog (Go.Op.pick (.tmp 0) (.tmp 1) (.tmp 2)) 4 [v30_15, (.bool true), v36_20] (fun v37_21 w =>
 condM v37_21
 (oM Tryz.prog (Go.Op.build 47 #[]) 47 [] (fun v38_22 w =>
 oM Tryz.prog (Go.Op.store 47 (.tmp 0) (.tmp 1)) 0 [v8_3, v38_22] (fun _ w =>
 ∃ r_23, (do loadVar 47 (← asAddr v8_3) : Sem Value).run Tryz.prog w = .ok r_23 w ∧ K (.tuple #[r_23, (.bool false)]) w) w) w)
 (oM Tryz.prog (Go.Op.build 47 #[(0, (.tmp 0))]) 47 [a3] (fun v40_24 w =>
 oM Tryz.prog (Go.Op.alloc 47) 0 [] (fun v13_25 w =>
 oM Tryz.prog (Go.Op.store 47 (.tmp 0) (.tmp 1)) 0 [v13_25, v40_24] (fun _ w =>
 callM Tryz.prog 73 #[a1] (fun v42_26 w =>
 oM Tryz.prog (Go.Op.call (Go.Call.mk (Go.Callee.builtin Go.Builtin.len) #[(.tmp 0)] #[22])) 3 [v42_26] (fun v43_27 w =>
 loopM [undef, undef, (.int .i64 0)] w (fun J_28 m_29 l_30 u_l_30 w0_l_30 => (fun w => (
 oM Tryz.prog (Go.Op.binOp Go.BinOp.lss 3 (.tmp 0) (.tmp 1) 3) 0 [(l_30.getD 2 undef), v43_27] (fun v45_31 w =>
 condM v45_31
 (oM Tryz.prog (Go.Op.indexAddr 22 (.tmp 0) (.tmp 1)) 0 [v42_26, (l_30.getD 2 undef)] (fun v47_32 w =>
 oM Tryz.prog (Go.Op.load 3 (.tmp 0)) 3 [v47_32] (fun v48_33 w =>
 stageM w (fun C_34 w => (oH Tryz.prog (Go.Op.fieldAddr 47 (.tmp 0) 1) 0 [v13_25] (upto C_34 4) (fun v49_35 =>
 oH Tryz.prog (Go.Op.load 22 (.tmp 0)) 22 [v49_35] (upto C_34 4) (fun v50_36 =>
 oH Tryz.prog (Go.Op.load 111 (.tmp 0)) 111 [v10_9] (upto C_34 2) (fun v51_37 =>
 oH Tryz.prog (Go.Op.fieldAddr 28 (.tmp 0) 3) 0 [v6_2] (upto C_34 2) (fun v52_38 =>
 oH Tryz.prog (Go.Op.load 22 (.tmp 0)) 22 [v52_38] (upto C_34 2) (fun v53_39 =>
 pureH (l_30.getD 2 undef) (upto C_34 2) (fun v54_40 =>
 oH Tryz.prog (Go.Op.indexAddr 22 (.tmp 0) (.tmp 1)) 0 [v53_39, v54_40] (upto C_34 2) (fun v55_41 =>
 oH Tryz.prog (Go.Op.load 3 (.tmp 0)) 3 [v55_41] (upto C_34 2) (fun v56_42 =>
 oH Tryz.prog (Go.Op.load 111 (.tmp 0)) 111 [v10_9] (upto C_34 1) (fun v57_43 =>
 pureH a3 (upto C_34 1) (fun v58_44 =>
 oH Tryz.prog (Go.Op.fieldAddr 28 (.tmp 0) 0) 0 [v6_2] (upto C_34 0) (fun v59_45 =>
 oH Tryz.prog (Go.Op.load 3 (.tmp 0)) 3 [v59_45] (upto C_34 0) (fun v60_46 =>
 pureH v48_33 (upto C_34 0) (fun v61_47 =>
 oM Tryz.prog (Go.Op.buildSlice 22 2 #[(0, (.tmp 0)), (1, (.tmp 1))]) 22 [v60_46, v61_47] (fun v62_48 w => C_34 1 w ∧ (
 callM Tryz.prog 75 #[v57_43, v58_44, v62_48] (fun v63_49 w => C_34 2 w ∧ (
 callM Tryz.prog 74 #[v51_37, v56_42, v63_49] (fun v64_50 w => C_34 3 w ∧ (
 oM Tryz.prog (Go.Op.buildSlice 22 1 #[(0, (.tmp 0))]) 22 [v64_50] (fun v65_51 w => C_34 4 w ∧ (
 oM Tryz.prog (Go.Op.call (Go.Call.mk (Go.Callee.builtin Go.Builtin.append) #[(.tmp 0), (.tmp 1)] #[22, 22])) 22 [v50_36, v65_51] (fun v66_52 w => C_34 5 w ∧ (
 oM Tryz.prog (Go.Op.fieldAddr 47 (.tmp 0) 1) 0 [v13_25] (fun v67_53 w => C_34 6 w ∧ (
 oM Tryz.prog (Go.Op.store 22 (.tmp 0) (.tmp 1)) 0 [v67_53, v66_52] (fun _ w => C_34 7 w ∧ (
 oM Tryz.prog (Go.Op.binOp Go.BinOp.add 3 (.tmp 0) (.tmp 1) 3) 3 [(l_30.getD 2 undef), (.int .i64 1)] (fun v68_54 w =>
 J_28 [(l_30.getD 2 undef), v48_33, v68_54] w ∧ m_29 [(l_30.getD 2 undef), v48_33, v68_54] w < m_29 l_30 w0_l_30) w)) w)) w)) w)) w)) w)) w)) w)))))))))))))))) w) w)
 (oM Tryz.prog (Go.Op.load 47 (.tmp 0)) 47 [v13_25] (fun v69_55 w =>
 oM Tryz.prog (Go.Op.store 47 (.tmp 0) (.tmp 1)) 0 [v8_3, v69_55] (fun _ w =>
 ∃ r_56, (do loadVar 47 (← asAddr v8_3) : Sem Value).run Tryz.prog w = .ok r_56 w ∧ K (.tuple #[r_56, (.bool true)]) w) w) w)) w)) w0_l_30)) w) w) w) w) w)) w) w) w) w) w) w) w) w) w) w) w) w) w) w) w) w) w) w) w) w) w) w
theorem sh_13_eq (a0 : Value) (a1 : Value) (a2 : Value) (a3 : Value) (K : Value → World → Prop) (w : World) : sh_13 a0 a1 a2 a3 K w = code Tryz.prog (fun _ => 3) 70 (Tryz.f13.body.getD .skip) (slotsAt [a0, a1, a2, a3]) (retK Tryz.prog [.cell 8 47, .tmp 9] K) w := by kernel_rfl
theorem sh_13_ok {a0 a1 a2 a3 : Value} {K : Value → World → Prop} {w : World} (h : sh_13 a0 a1 a2 a3 K w) : callM Tryz.prog 13 #[a0, a1, a2, a3] K w :=
  calls_of_code (fun _ => 3) (fn := Tryz.f13) (rs := [.cell 8 47, .tmp 9]) Tryz.func13 rfl rfl (by kernel_rfl) (Nat.le_of_ble_eq_true rfl) ((sh_13_eq a0 a1 a2 a3 K w).mp h)

/-- cloak/ticket.Propose -/
def sh_14 (a0 : Value) (a1 : Value) (a2 : Value) (a3 : Value) (K : Value → World → Prop) (w : World) : Prop :=
 oM Tryz.prog (Go.Op.box 35 (.tmp 0)) 0 [a0] (fun v4_1 w =>
 oM Tryz.prog (Go.Op.alloc 39) 0 [] (fun v8_2 w =>
 oM Tryz.prog (Go.Op.load 35 (.tmp 0)) 35 [v4_1] (fun v14_3 w =>
 callM Tryz.prog 70 #[v14_3, a2] (fun v16_4 w =>
 oM Tryz.prog (Go.Op.extract (.tmp 0) 0) 111 [v16_4] (fun v17_5 w =>
 oM Tryz.prog (Go.Op.extract (.tmp 0) 1) 3 [v16_4] (fun v18_6 w =>
 oM Tryz.prog (Go.Op.extract (.tmp 0) 2) 4 [v16_4] (fun v19_7 w =>
 oM Tryz.prog (Go.Op.alloc 111) 0 [] (fun v10_8 w =>
 oM Tryz.prog (Go.Op.store 111 (.tmp 0) (.tmp 1)) 0 [v10_8, v17_5] (fun _ w =>
 oM Tryz.prog (Go.Op.unOp Go.UnOp.not 4 (.tmp 0)) 4 [v19_7] (fun v21_9 w =>
 gdM (gd v21_9 false) (oM Tryz.prog (Go.Op.load 111 (.tmp 0)) 111 [v10_8]) (fun v23_10 w =>
 gdM (gd v21_9 false) (pureM a1) (fun v24_11 w =>
 gdM (gd v21_9 false) (oM Tryz.prog (Go.Op.buildSlice 22 1 #[(0, (.tmp 0))]) 22 [v24_11]) (fun v25_12 w =>
 gdM (gd v21_9 false) (callM Tryz.prog 72 #[v23_10, (.int .i64 1), v25_12]) (fun v26_13 w =>
 gdM (gd v21_9 false) (oM Tryz.prog (Go.Op.unOp Go.UnOp.not 4 (.tmp 0)) 4 [v26_13]) (fun v27_14 w =>
 oM Tryz.prog (Go.Op.pick (.tmp 0) (.tmp 1) (.tmp 2)) 4 [v21_9, (.bool true), v27_14] (fun v28_15 w =>
 gdM (gd v28_15 false) (oM Tryz.prog (Go.Op.load 111 (.tmp 0)) 111 [v10_8]) (fun v30_16 w =>
 gdM (gd v28_15 false) (pureM a3) (fun v31_17 w =>
 gdM (gd v28_15 false) (oM Tryz.prog (Go.Op.buildSlice 22 1 #[(0, (.tmp 0))]) 22 [v31_17]) (fun v32_18 w =>
 gdM (gd v28_15 false) (callM Tryz.prog 72 #[v30_16, (.int .i64 0), v32_18]) (fun v33_19 w =>
 gdM (gd v28_15 false) (oM Tryz.prog (Go.Op.unOp Go.UnOp.not 4 (.tmp 0)) 4 [v33_19]) (fun v34_20 w =>
 oM Tryz.prog (Go.Op.pick (.tmp 0) (.tmp 1) (.tmp 2)) 4 [v28_15, (.bool true), v34_20] (fun v35_21 w =>
 condM v35_21
 (oM Tryz.prog (Go.Op.build 39 #[]) 39 [] (fun v36_22 w =>
 oM Tryz.prog (Go.Op.store 39 (.tmp 0) (.tmp 1)) 0 [v8_2, v36_22] (fun _ w =>
 ∃ r_23, (do loadVar 39 (← asAddr v8_2) : Sem Value).run Tryz.prog w = .ok r_23 w ∧ K (.tuple #[r_23, (.int .i64 1)]) w) w) w)
 (heldM w (fun C_24 w => (oH Tryz.prog (Go.Op.load 111 (.tmp 0)) 111 [v10_8] C_24 (fun v37_25 =>
 pureH v18_6 C_24 (fun v38_26 =>
 pureH a1 C_24 (fun v39_27 =>
 oH Tryz.prog (Go.Op.load 111 (.tmp 0)) 111 [v10_8] C_24 (fun v41_28 =>
 pureH a3 C_24 (fun v42_29 =>
 oH Tryz.prog (Go.Op.load 111 (.tmp 0)) 111 [v10_8] C_24 (fun v44_30 =>
 pureH v18_6 C_24 (fun v45_31 =>
 pureH a3 C_24 (fun v46_32 =>
 callM Tryz.prog 76 #[v37_25, v38_26, v39_27] (fun v40_33 w => C_24 w ∧ (
 callM Tryz.prog 77 #[v41_28, v42_29] (fun v43_34 w => C_24 w ∧ (
 callM Tryz.prog 76 #[v44_30, v45_31, v46_32] (fun v47_35 w => C_24 w ∧ (
 oM Tryz.prog (Go.Op.build 39 #[(0, (.tmp 0)), (1, (.tmp 1)), (2, (.tmp 2))]) 39 [v40_33, v43_34, v47_35] (fun v48_36 w => C_24 w ∧ (
 oM Tryz.prog (Go.Op.store 39 (.tmp 0) (.tmp 1)) 0 [v8_2, v48_36] (fun _ w => C_24 w ∧ (
 C_24 w ∧ (∃ r_38, (do loadVar 39 (← asAddr v8_2) : Sem Value).run Tryz.prog w = .ok r_38 w ∧ K (.tuple #[r_38, (.int .i64 0)]) w))) w)) w)) w)) w)) w)))))))))))) w) w) w) w) w) w) w) w) w) w) w) w) w) w) w) w) w) w) w) w) w) w
theorem sh_14_eq (a0 : Value) (a1 : Value) (a2 : Value) (a3 : Value) (K : Value → World → Prop) (w : World) : sh_14 a0 a1 a2 a3 K w = code Tryz.prog (fun _ => 2) 49 (Tryz.f14.body.getD .skip) (slotsAt [a0, a1, a2, a3]) (retK Tryz.prog [.cell 8 39, .tmp 9] K) w := by kernel_rfl
theorem sh_14_ok {a0 a1 a2 a3 : Value} {K : Value → World → Prop} {w : World} (h : sh_14 a0 a1 a2 a3 K w) : callM Tryz.prog 14 #[a0, a1, a2, a3] K w :=
  calls_of_code (fun _ => 2) (fn := Tryz.f14) (rs := [.cell 8 39, .tmp 9]) Tryz.func14 rfl rfl (by kernel_rfl) (Nat.le_of_ble_eq_true rfl) ((sh_14_eq a0 a1 a2 a3 K w).mp h)

/-- cloak/ticket.Grant -/
def sh_15 (a0 : Value) (a1 : Value) (a2 : Value) (a3 : Value) (K : Value → World → Prop) (w : World) : Prop :=
 oM Tryz.prog (Go.Op.box 35 (.tmp 0)) 0 [a0] (fun v4_1 w =>
 oM Tryz.prog (Go.Op.load 35 (.tmp 0)) 35 [v4_1] (fun v12_2 w =>
 callM Tryz.prog 78 #[v12_2] (fun v13_3 w =>
 oM Tryz.prog (Go.Op.extract (.tmp 0) 0) 111 [v13_3] (fun v14_4 w =>
 oM Tryz.prog (Go.Op.extract (.tmp 0) 1) 4 [v13_3] (fun v15_5 w =>
 oM Tryz.prog (Go.Op.alloc 111) 0 [] (fun v9_6 w =>
 oM Tryz.prog (Go.Op.store 111 (.tmp 0) (.tmp 1)) 0 [v9_6, v14_4] (fun _ w =>
 gdM (gd v15_5 true) (oM Tryz.prog (Go.Op.load 111 (.tmp 0)) 111 [v9_6]) (fun v18_7 w =>
 gdM (gd v15_5 true) (pureM a1) (fun v19_8 w =>
 gdM (gd v15_5 true) (oM Tryz.prog (Go.Op.buildSlice 22 1 #[(0, (.tmp 0))]) 22 [v19_8]) (fun v20_9 w =>
 gdM (gd v15_5 true) (callM Tryz.prog 72 #[v18_7, (.int .i64 1), v20_9]) (fun v21_10 w =>
 oM Tryz.prog (Go.Op.pick (.tmp 0) (.tmp 1) (.tmp 2)) 4 [v15_5, v21_10, (.bool false)] (fun v22_11 w =>
 gdM (gd v22_11 true) (oM Tryz.prog (Go.Op.load 111 (.tmp 0)) 111 [v9_6]) (fun v24_12 w =>
 gdM (gd v22_11 true) (pureM a2) (fun v25_13 w =>
 gdM (gd v22_11 true) (pureM a3) (fun v26_14 w =>
 gdM (gd v22_11 true) (oM Tryz.prog (Go.Op.buildSlice 22 2 #[(0, (.tmp 0)), (1, (.tmp 1))]) 22 [v25_13, v26_14]) (fun v27_15 w =>
 gdM (gd v22_11 true) (callM Tryz.prog 72 #[v24_12, (.int .i64 0), v27_15]) (fun v28_16 w =>
 oM Tryz.prog (Go.Op.pick (.tmp 0) (.tmp 1) (.tmp 2)) 4 [v22_11, v28_16, (.bool false)] (fun v29_17 w =>
 condM v29_17
 (heldM w (fun C_18 w => (oH Tryz.prog (Go.Op.load 111 (.tmp 0)) 111 [v9_6] C_18 (fun v30_19 =>
 oH Tryz.prog (Go.Op.load 111 (.tmp 0)) 111 [v9_6] C_18 (fun v31_20 =>
 pureH a3 C_18 (fun v32_21 =>
 pureH a1 C_18 (fun v33_22 =>
 pureH a2 C_18 (fun v36_23 =>
 oM Tryz.prog (Go.Op.buildSlice 22 1 #[(0, (.tmp 0))]) 22 [v33_22] (fun v34_24 w => C_18 w ∧ (
 callM Tryz.prog 75 #[v31_20, v32_21, v34_24] (fun v35_25 w => C_18 w ∧ (
 callM Tryz.prog 74 #[v30_19, v35_25, v36_23] (fun v37_26 w => C_18 w ∧ (
 C_18 w ∧ (K v37_26 w))) w)) w)) w))))))))
 (K (.int .i64 0) w)) w) w) w) w) w) w) w) w) w) w) w) w) w) w) w) w) w) w
theorem sh_15_eq (a0 : Value) (a1 : Value) (a2 : Value) (a3 : Value) (K : Value → World → Prop) (w : World) : sh_15 a0 a1 a2 a3 K w = code Tryz.prog (fun _ => 2) 38 (Tryz.f15.body.getD .skip) (slotsAt [a0, a1, a2, a3]) (retK Tryz.prog [.tmp 8] K) w := by kernel_rfl
theorem sh_15_ok {a0 a1 a2 a3 : Value} {K : Value → World → Prop} {w : World} (h : sh_15 a0 a1 a2 a3 K w) : callM Tryz.prog 15 #[a0, a1, a2, a3] K w :=
  calls_of_code (fun _ => 2) (fn := Tryz.f15) (rs := [.tmp 8]) Tryz.func15 rfl rfl (by kernel_rfl) (Nat.le_of_ble_eq_true rfl) ((sh_15_eq a0 a1 a2 a3 K w).mp h)

/-- cloak/ticket.Public -/
def sh_19 (a0 : Value) (a1 : Value) (K : Value → World → Prop) (w : World) : Prop :=
 oM Tryz.prog (Go.Op.box 35 (.tmp 0)) 0 [a0] (fun v2_1 w =>
 oM Tryz.prog (Go.Op.load 35 (.tmp 0)) 35 [v2_1] (fun v8_2 w =>
 callM Tryz.prog 78 #[v8_2] (fun v9_3 w =>
 oM Tryz.prog (Go.Op.extract (.tmp 0) 0) 111 [v9_3] (fun v10_4 w =>
 oM Tryz.prog (Go.Op.extract (.tmp 0) 1) 4 [v9_3] (fun v11_5 w =>
 oM Tryz.prog (Go.Op.alloc 111) 0 [] (fun v5_6 w =>
 oM Tryz.prog (Go.Op.store 111 (.tmp 0) (.tmp 1)) 0 [v5_6, v10_4] (fun _ w =>
 gdM (gd v11_5 true) (oM Tryz.prog (Go.Op.load 111 (.tmp 0)) 111 [v5_6]) (fun v14_7 w =>
 gdM (gd v11_5 true) (pureM a1) (fun v15_8 w =>
 gdM (gd v11_5 true) (oM Tryz.prog (Go.Op.buildSlice 22 1 #[(0, (.tmp 0))]) 22 [v15_8]) (fun v16_9 w =>
 gdM (gd v11_5 true) (callM Tryz.prog 72 #[v14_7, (.int .i64 1), v16_9]) (fun v17_10 w =>
 oM Tryz.prog (Go.Op.pick (.tmp 0) (.tmp 1) (.tmp 2)) 4 [v11_5, v17_10, (.bool false)] (fun v18_11 w =>
 condM v18_11
 (oM Tryz.prog (Go.Op.load 111 (.tmp 0)) 111 [v5_6] (fun v19_12 w =>
 callM Tryz.prog 77 #[v19_12, a1] (fun v21_13 w =>
 K v21_13 w) w) w)
 (K (.int .i64 0) w)) w) w) w) w) w) w) w) w) w) w) w) w
theorem sh_19_eq (a0 : Value) (a1 : Value) (K : Value → World → Prop) (w : World) : sh_19 a0 a1 K w = code Tryz.prog (fun _ => 2) 22 (Tryz.f19.body.getD .skip) (slotsAt [a0, a1]) (retK Tryz.prog [.tmp 4] K) w := by kernel_rfl
theorem sh_19_ok {a0 a1 : Value} {K : Value → World → Prop} {w : World} (h : sh_19 a0 a1 K w) : callM Tryz.prog 19 #[a0, a1] K w :=
  calls_of_code (fun _ => 2) (fn := Tryz.f19) (rs := [.tmp 4]) Tryz.func19 rfl rfl (by kernel_rfl) (Nat.le_of_ble_eq_true rfl) ((sh_19_eq a0 a1 K w).mp h)

/-- cloak/ticket.Mark -/
def sh_27 (a0 : Value) (a1 : Value) (K : Value → World → Prop) (w : World) : Prop :=
 oM Tryz.prog (Go.Op.box 35 (.tmp 0)) 0 [a0] (fun v2_1 w =>
 oM Tryz.prog (Go.Op.load 35 (.tmp 0)) 35 [v2_1] (fun v9_2 w =>
 callM Tryz.prog 95 #[v9_2, a1] (fun v11_3 w =>
 oM Tryz.prog (Go.Op.extract (.tmp 0) 0) 111 [v11_3] (fun v12_4 w =>
 oM Tryz.prog (Go.Op.extract (.tmp 0) 1) 3 [v11_3] (fun v13_5 w =>
 oM Tryz.prog (Go.Op.extract (.tmp 0) 2) 4 [v11_3] (fun v14_6 w =>
 oM Tryz.prog (Go.Op.alloc 111) 0 [] (fun v5_7 w =>
 oM Tryz.prog (Go.Op.store 111 (.tmp 0) (.tmp 1)) 0 [v5_7, v12_4] (fun _ w =>
 K v13_5 w) w) w) w) w) w) w) w) w
theorem sh_27_eq (a0 : Value) (a1 : Value) (K : Value → World → Prop) (w : World) : sh_27 a0 a1 K w = code Tryz.prog (fun _ => 0) 16 (Tryz.f27.body.getD .skip) (slotsAt [a0, a1]) (retK Tryz.prog [.tmp 4] K) w := by kernel_rfl
theorem sh_27_ok {a0 a1 : Value} {K : Value → World → Prop} {w : World} (h : sh_27 a0 a1 K w) : callM Tryz.prog 27 #[a0, a1] K w :=
  calls_of_code (fun _ => 0) (fn := Tryz.f27) (rs := [.tmp 4]) Tryz.func27 rfl rfl (by kernel_rfl) (Nat.le_of_ble_eq_true rfl) ((sh_27_eq a0 a1 K w).mp h)

/-- cloak/ticket.Usable -/
def sh_29 (a0 : Value) (a1 : Value) (K : Value → World → Prop) (w : World) : Prop :=
 oM Tryz.prog (Go.Op.box 35 (.tmp 0)) 0 [a0] (fun v2_1 w =>
 oM Tryz.prog (Go.Op.load 35 (.tmp 0)) 35 [v2_1] (fun v9_2 w =>
 callM Tryz.prog 70 #[v9_2, a1] (fun v11_3 w =>
 oM Tryz.prog (Go.Op.extract (.tmp 0) 0) 111 [v11_3] (fun v12_4 w =>
 oM Tryz.prog (Go.Op.extract (.tmp 0) 1) 3 [v11_3] (fun v13_5 w =>
 oM Tryz.prog (Go.Op.extract (.tmp 0) 2) 4 [v11_3] (fun v14_6 w =>
 oM Tryz.prog (Go.Op.alloc 111) 0 [] (fun v5_7 w =>
 oM Tryz.prog (Go.Op.store 111 (.tmp 0) (.tmp 1)) 0 [v5_7, v12_4] (fun _ w =>
 K v14_6 w) w) w) w) w) w) w) w) w
theorem sh_29_eq (a0 : Value) (a1 : Value) (K : Value → World → Prop) (w : World) : sh_29 a0 a1 K w = code Tryz.prog (fun _ => 0) 16 (Tryz.f29.body.getD .skip) (slotsAt [a0, a1]) (retK Tryz.prog [.tmp 4] K) w := by kernel_rfl
theorem sh_29_ok {a0 a1 : Value} {K : Value → World → Prop} {w : World} (h : sh_29 a0 a1 K w) : callM Tryz.prog 29 #[a0, a1] K w :=
  calls_of_code (fun _ => 0) (fn := Tryz.f29) (rs := [.tmp 4]) Tryz.func29 rfl rfl (by kernel_rfl) (Nat.le_of_ble_eq_true rfl) ((sh_29_eq a0 a1 K w).mp h)

/-- cloak/ticket.Trace -/
def sh_48 (a0 : Value) (a1 : Value) (a2 : Value) (a3 : Value) (K : Value → World → Prop) (w : World) : Prop :=
 oM Tryz.prog (Go.Op.box 35 (.tmp 0)) 0 [a0] (fun v4_1 w =>
 oM Tryz.prog (Go.Op.box 43 (.tmp 0)) 0 [a1] (fun v5_2 w =>
 oM Tryz.prog (Go.Op.box 47 (.tmp 0)) 0 [a2] (fun v6_3 w =>
 oM Tryz.prog (Go.Op.box 47 (.tmp 0)) 0 [a3] (fun v7_4 w =>
 oM Tryz.prog (Go.Op.load 35 (.tmp 0)) 35 [v4_1] (fun v17_5 w =>
 oM Tryz.prog (Go.Op.load 43 (.tmp 0)) 43 [v5_2] (fun v18_6 w =>
 oM Tryz.prog (Go.Op.load 47 (.tmp 0)) 47 [v6_3] (fun v19_7 w =>
 oM Tryz.prog (Go.Op.load 47 (.tmp 0)) 47 [v7_4] (fun v20_8 w =>
 callM Tryz.prog 120 #[v17_5, v18_6, v19_7, v20_8] (fun v21_9 w =>
 oM Tryz.prog (Go.Op.extract (.tmp 0) 0) 111 [v21_9] (fun v22_10 w =>
 oM Tryz.prog (Go.Op.extract (.tmp 0) 1) 22 [v21_9] (fun v23_11 w =>
 oM Tryz.prog (Go.Op.extract (.tmp 0) 2) 4 [v21_9] (fun v24_12 w =>
 oM Tryz.prog (Go.Op.alloc 111) 0 [] (fun v10_13 w =>
 oM Tryz.prog (Go.Op.store 111 (.tmp 0) (.tmp 1)) 0 [v10_13, v22_10] (fun _ w =>
 oM Tryz.prog (Go.Op.unOp Go.UnOp.not 4 (.tmp 0)) 4 [v24_12] (fun v26_14 w =>
 condM v26_14
 (K (.tuple #[(.slice none 0 0), (.bool false)]) w)
 (oM Tryz.prog (Go.Op.slice 22 (.tmp 0) (some (.tmp 1)) none none) 22 [v23_11, (.int .i64 1)] (fun v28_15 w =>
 oM Tryz.prog (Go.Op.call (Go.Call.mk (Go.Callee.builtin Go.Builtin.len) #[(.tmp 0)] #[22])) 3 [v28_15] (fun v29_16 w =>
 loopM [undef, (.slice none 0 0), (.int .i64 0)] w (fun J_17 m_18 l_19 u_l_19 w0_l_19 => (fun w => (
 oM Tryz.prog (Go.Op.binOp Go.BinOp.lss 3 (.tmp 0) (.tmp 1) 3) 0 [(l_19.getD 2 undef), v29_16] (fun v31_20 w =>
 condM v31_20
 (oM Tryz.prog (Go.Op.indexAddr 22 (.tmp 0) (.tmp 1)) 0 [v28_15, (l_19.getD 2 undef)] (fun v32_21 w =>
 oM Tryz.prog (Go.Op.load 3 (.tmp 0)) 3 [v32_21] (fun v33_22 w =>
 heldM w (fun C_23 w => (pureH (l_19.getD 1 undef) C_23 (fun v34_24 =>
 oH Tryz.prog (Go.Op.load 111 (.tmp 0)) 111 [v10_13] C_23 (fun v35_25 =>
 pureH v33_22 C_23 (fun v36_26 =>
 pureH v23_11 C_23 (fun v37_27 =>
 oH Tryz.prog (Go.Op.indexAddr 22 (.tmp 0) (.tmp 1)) 0 [v37_27, (.int .i64 0)] C_23 (fun v38_28 =>
 oH Tryz.prog (Go.Op.load 3 (.tmp 0)) 3 [v38_28] C_23 (fun v39_29 =>
 callM Tryz.prog 105 #[v35_25, v36_26, v39_29] (fun v40_30 w => C_23 w ∧ (
 oM Tryz.prog (Go.Op.buildSlice 22 1 #[(0, (.tmp 0))]) 22 [v40_30] (fun v41_31 w => C_23 w ∧ (
 oM Tryz.prog (Go.Op.call (Go.Call.mk (Go.Callee.builtin Go.Builtin.append) #[(.tmp 0), (.tmp 1)] #[22, 22])) 22 [v34_24, v41_31] (fun v42_32 w => C_23 w ∧ (
 C_23 w ∧ (oM Tryz.prog (Go.Op.binOp Go.BinOp.add 3 (.tmp 0) (.tmp 1) 3) 3 [(l_19.getD 2 undef), (.int .i64 1)] (fun v43_34 w =>
 J_17 [v33_22, v42_32, v43_34] w ∧ m_18 [v33_22, v42_32, v43_34] w < m_18 l_19 w0_l_19) w))) w)) w)) w))))))))) w) w)
 (K (.tuple #[(l_19.getD 1 undef), (.bool true)]) w)) w)) w0_l_19)) w) w)) w) w) w) w) w) w) w) w) w) w) w) w) w) w) w
theorem sh_48_eq (a0 : Value) (a1 : Value) (a2 : Value) (a3 : Value) (K : Value → World → Prop) (w : World) : sh_48 a0 a1 a2 a3 K w = code Tryz.prog (fun _ => 2) 45 (Tryz.f48.body.getD .skip) (slotsAt [a0, a1, a2, a3]) (retK Tryz.prog [.tmp 8, .tmp 9] K) w := by kernel_rfl
theorem sh_48_ok {a0 a1 a2 a3 : Value} {K : Value → World → Prop} {w : World} (h : sh_48 a0 a1 a2 a3 K w) : callM Tryz.prog 48 #[a0, a1, a2, a3] K w :=
  calls_of_code (fun _ => 2) (fn := Tryz.f48) (rs := [.tmp 8, .tmp 9]) Tryz.func48 rfl rfl (by kernel_rfl) (Nat.le_of_ble_eq_true rfl) ((sh_48_eq a0 a1 a2 a3 K w).mp h)

/-- cloak/ticket.Accepts -/
def sh_57 (a0 : Value) (a1 : Value) (a2 : Value) (K : Value → World → Prop) (w : World) : Prop :=
 oM Tryz.prog (Go.Op.box 35 (.tmp 0)) 0 [a0] (fun v3_1 w =>
 oM Tryz.prog (Go.Op.box 43 (.tmp 0)) 0 [a1] (fun v4_2 w =>
 oM Tryz.prog (Go.Op.box 47 (.tmp 0)) 0 [a2] (fun v5_3 w =>
 oM Tryz.prog (Go.Op.load 35 (.tmp 0)) 35 [v3_1] (fun v10_4 w =>
 oM Tryz.prog (Go.Op.load 43 (.tmp 0)) 43 [v4_2] (fun v11_5 w =>
 callM Tryz.prog 124 #[v10_4, v11_5] (fun v12_6 w =>
 oM Tryz.prog (Go.Op.extract (.tmp 0) 0) 111 [v12_6] (fun v13_7 w =>
 oM Tryz.prog (Go.Op.extract (.tmp 0) 1) 4 [v12_6] (fun v14_8 w =>
 oM Tryz.prog (Go.Op.alloc 111) 0 [] (fun v7_9 w =>
 oM Tryz.prog (Go.Op.store 111 (.tmp 0) (.tmp 1)) 0 [v7_9, v13_7] (fun _ w =>
 oM Tryz.prog (Go.Op.unOp Go.UnOp.not 4 (.tmp 0)) 4 [v14_8] (fun v16_10 w =>
 gdM (gd v16_10 false) (oM Tryz.prog (Go.Op.load 111 (.tmp 0)) 111 [v7_9]) (fun v18_11 w =>
 gdM (gd v16_10 false) (oM Tryz.prog (Go.Op.fieldAddr 47 (.tmp 0) 0) 0 [v5_3]) (fun v19_12 w =>
 gdM (gd v16_10 false) (oM Tryz.prog (Go.Op.load 3 (.tmp 0)) 3 [v19_12]) (fun v20_13 w =>
 gdM (gd v16_10 false) (oM Tryz.prog (Go.Op.buildSlice 22 1 #[(0, (.tmp 0))]) 22 [v20_13]) (fun v21_14 w =>
 gdM (gd v16_10 false) (callM Tryz.prog 72 #[v18_11, (.int .i64 1), v21_14]) (fun v22_15 w =>
 gdM (gd v16_10 false) (oM Tryz.prog (Go.Op.unOp Go.UnOp.not 4 (.tmp 0)) 4 [v22_15]) (fun v23_16 w =>
 oM Tryz.prog (Go.Op.pick (.tmp 0) (.tmp 1) (.tmp 2)) 4 [v16_10, (.bool true), v23_16] (fun v24_17 w =>
 gdM (gd v24_17 false) (oM Tryz.prog (Go.Op.fieldAddr 47 (.tmp 0) 1) 0 [v5_3]) (fun v26_18 w =>
 gdM (gd v24_17 false) (oM Tryz.prog (Go.Op.load 22 (.tmp 0)) 22 [v26_18]) (fun v27_19 w =>
 gdM (gd v24_17 false) (oM Tryz.prog (Go.Op.call (Go.Call.mk (Go.Callee.builtin Go.Builtin.len) #[(.tmp 0)] #[22])) 3 [v27_19]) (fun v28_20 w =>
 gdM (gd v24_17 false) (oM Tryz.prog (Go.Op.fieldAddr 35 (.tmp 0) 1) 0 [v3_1]) (fun v29_21 w =>
 gdM (gd v24_17 false) (oM Tryz.prog (Go.Op.load 22 (.tmp 0)) 22 [v29_21]) (fun v30_22 w =>
 gdM (gd v24_17 false) (oM Tryz.prog (Go.Op.call (Go.Call.mk (Go.Callee.builtin Go.Builtin.len) #[(.tmp 0)] #[22])) 3 [v30_22]) (fun v31_23 w =>
 gdM (gd v24_17 false) (oM Tryz.prog (Go.Op.binOp Go.BinOp.neq 3 (.tmp 0) (.tmp 1) 3) 4 [v28_20, v31_23]) (fun v32_24 w =>
 oM Tryz.prog (Go.Op.pick (.tmp 0) (.tmp 1) (.tmp 2)) 4 [v24_17, (.bool true), v32_24] (fun v33_25 w =>
 gdM (gd v33_25 false) (oM Tryz.prog (Go.Op.load 111 (.tmp 0)) 111 [v7_9]) (fun v35_26 w =>
 gdM (gd v33_25 false) (oM Tryz.prog (Go.Op.fieldAddr 47 (.tmp 0) 1) 0 [v5_3]) (fun v36_27 w =>
 gdM (gd v33_25 false) (oM Tryz.prog (Go.Op.load 22 (.tmp 0)) 22 [v36_27]) (fun v37_28 w =>
 gdM (gd v33_25 false) (callM Tryz.prog 72 #[v35_26, (.int .i64 0), v37_28]) (fun v38_29 w =>
 gdM (gd v33_25 false) (oM Tryz.prog (Go.Op.unOp Go.UnOp.not 4 (.tmp 0)) 4 [v38_29]) (fun v39_30 w =>
 oM Tryz.prog (Go.Op.pick (.tmp 0) (.tmp 1) (.tmp 2)) 4 [v33_25, (.bool true), v39_30] (fun v40_31 w =>
 condM v40_31
 (K (.bool false) w)
 (heldM w (fun C_32 w => (oH Tryz.prog (Go.Op.load 111 (.tmp 0)) 111 [v7_9] C_32 (fun v41_33 =>
 oH Tryz.prog (Go.Op.fieldAddr 47 (.tmp 0) 1) 0 [v5_3] C_32 (fun v42_34 =>
 oH Tryz.prog (Go.Op.load 22 (.tmp 0)) 22 [v42_34] C_32 (fun v43_35 =>
 oH Tryz.prog (Go.Op.load 111 (.tmp 0)) 111 [v7_9] C_32 (fun v45_36 =>
 oH Tryz.prog (Go.Op.load 111 (.tmp 0)) 111 [v7_9] C_32 (fun v46_37 =>
 oH Tryz.prog (Go.Op.fieldAddr 43 (.tmp 0) 0) 0 [v4_2] C_32 (fun v47_38 =>
 oH Tryz.prog (Go.Op.load 3 (.tmp 0)) 3 [v47_38] C_32 (fun v48_39 =>
 oH Tryz.prog (Go.Op.fieldAddr 47 (.tmp 0) 0) 0 [v5_3] C_32 (fun v49_40 =>
 oH Tryz.prog (Go.Op.load 3 (.tmp 0)) 3 [v49_40] C_32 (fun v50_41 =>
 oH Tryz.prog (Go.Op.fieldAddr 43 (.tmp 0) 1) 0 [v4_2] C_32 (fun v52_42 =>
 oH Tryz.prog (Go.Op.load 3 (.tmp 0)) 3 [v52_42] C_32 (fun v53_43 =>
 (callM Tryz.prog 126 #[v41_33, v43_35] (fun v44_44 w => C_32 w ∧ (
 (callM Tryz.prog 76 #[v46_37, v48_39, v50_41] (fun v51_45 w => C_32 w ∧ (
 oM Tryz.prog (Go.Op.buildSlice 22 1 #[(0, (.tmp 0))]) 22 [v53_43] (fun v54_46 w => C_32 w ∧ (
 callM Tryz.prog 127 #[v45_36, v51_45, v54_46] (fun v55_47 w => C_32 w ∧ (
 oH Tryz.prog (Go.Op.binOp Go.BinOp.eql 3 (.tmp 0) (.tmp 1) 3) 4 [v44_44, v55_47] C_32 (fun v56_48 =>
 C_32 w ∧ (K v56_48 w)))) w)) w)) w) ∧
 (oM Tryz.prog (Go.Op.buildSlice 22 1 #[(0, (.tmp 0))]) 22 [v53_43] (fun v54_50 w => C_32 w ∧ (
 callM Tryz.prog 76 #[v46_37, v48_39, v50_41] (fun v51_51 w => C_32 w ∧ (
 callM Tryz.prog 127 #[v45_36, v51_51, v54_50] (fun v55_52 w => C_32 w ∧ (
 oH Tryz.prog (Go.Op.binOp Go.BinOp.eql 3 (.tmp 0) (.tmp 1) 3) 4 [v44_44, v55_52] C_32 (fun v56_53 =>
 C_32 w ∧ (K v56_53 w)))) w)) w)) w))) w) ∧
 (oM Tryz.prog (Go.Op.buildSlice 22 1 #[(0, (.tmp 0))]) 22 [v53_43] (fun v54_55 w => C_32 w ∧ (
 callM Tryz.prog 126 #[v41_33, v43_35] (fun v44_56 w => C_32 w ∧ (
 callM Tryz.prog 76 #[v46_37, v48_39, v50_41] (fun v51_57 w => C_32 w ∧ (
 callM Tryz.prog 127 #[v45_36, v51_57, v54_55] (fun v55_58 w => C_32 w ∧ (
 oH Tryz.prog (Go.Op.binOp Go.BinOp.eql 3 (.tmp 0) (.tmp 1) 3) 4 [v44_56, v55_58] C_32 (fun v56_59 =>
 C_32 w ∧ (K v56_59 w)))) w)) w)) w)) w)))))))))))))))) w) w) w) w) w) w) w) w) w) w) w) w) w) w) w) w) w) w) w) w) w) w) w) w) w) w) w) w) w) w) w) w
theorem sh_57_eq (a0 : Value) (a1 : Value) (a2 : Value) (K : Value → World → Prop) (w : World) : sh_57 a0 a1 a2 K w = code Tryz.prog (fun _ => .tree (.look 0 (.look 1 (.look 2 (.look 4 (.look 5 (.look 6 (.look 7 (.look 8 (.look 9 (.look 11 (.look 12 (.alt 3 (.alt 10 (.only 13 (.only 14 (.look 15 (.only 16 (.done))))) (.only 13 (.only 10 (.only 14 (.look 15 (.only 16 (.done))))))) (.only 13 (.only 3 (.only 10 (.only 14 (.look 15 (.only 16 (.done)))))))))))))))))))) 57 (Tryz.f57.body.getD .skip) (slotsAt [a0, a1, a2]) (retK Tryz.prog [.tmp 6] K) w := by kernel_rfl
theorem sh_57_ok {a0 a1 a2 : Value} {K : Value → World → Prop} {w : World} (h : sh_57 a0 a1 a2 K w) : callM Tryz.prog 57 #[a0, a1, a2] K w :=
  calls_of_code (fun _ => .tree (.look 0 (.look 1 (.look 2 (.look 4 (.look 5 (.look 6 (.look 7 (.look 8 (.look 9 (.look 11 (.look 12 (.alt 3 (.alt 10 (.only 13 (.only 14 (.look 15 (.only 16 (.done))))) (.only 13 (.only 10 (.only 14 (.look 15 (.only 16 (.done))))))) (.only 13 (.only 3 (.only 10 (.only 14 (.look 15 (.only 16 (.done)))))))))))))))))))) (fn := Tryz.f57) (rs := [.tmp 6]) Tryz.func57 rfl rfl (by kernel_rfl) (Nat.le_of_ble_eq_true rfl) ((sh_57_eq a0 a1 a2 K w).mp h)

/-- cloak/ticket.Guilty -/
def sh_60 (a0 : Value) (a1 : Value) (a2 : Value) (a3 : Value) (a4 : Value) (K : Value → World → Prop) (w : World) : Prop :=
 oM Tryz.prog (Go.Op.box 35 (.tmp 0)) 0 [a0] (fun v5_1 w =>
 oM Tryz.prog (Go.Op.box 43 (.tmp 0)) 0 [a1] (fun v6_2 w =>
 oM Tryz.prog (Go.Op.box 47 (.tmp 0)) 0 [a2] (fun v7_3 w =>
 oM Tryz.prog (Go.Op.box 47 (.tmp 0)) 0 [a3] (fun v8_4 w =>
 oM Tryz.prog (Go.Op.load 35 (.tmp 0)) 35 [v5_1] (fun v17_5 w =>
 oM Tryz.prog (Go.Op.load 43 (.tmp 0)) 43 [v6_2] (fun v18_6 w =>
 oM Tryz.prog (Go.Op.load 47 (.tmp 0)) 47 [v7_3] (fun v19_7 w =>
 oM Tryz.prog (Go.Op.load 47 (.tmp 0)) 47 [v8_4] (fun v20_8 w =>
 callM Tryz.prog 120 #[v17_5, v18_6, v19_7, v20_8] (fun v21_9 w =>
 oM Tryz.prog (Go.Op.extract (.tmp 0) 0) 111 [v21_9] (fun v22_10 w =>
 oM Tryz.prog (Go.Op.extract (.tmp 0) 1) 22 [v21_9] (fun v23_11 w =>
 oM Tryz.prog (Go.Op.extract (.tmp 0) 2) 4 [v21_9] (fun v24_12 w =>
 oM Tryz.prog (Go.Op.alloc 111) 0 [] (fun v11_13 w =>
 oM Tryz.prog (Go.Op.store 111 (.tmp 0) (.tmp 1)) 0 [v11_13, v22_10] (fun _ w =>
 oM Tryz.prog (Go.Op.unOp Go.UnOp.not 4 (.tmp 0)) 4 [v24_12] (fun v26_14 w =>
 gdM (gd v26_14 false) (pureM a4) (fun v28_15 w =>
 gdM (gd v26_14 false) (oM Tryz.prog (Go.Op.call (Go.Call.mk (Go.Callee.builtin Go.Builtin.len) #[(.tmp 0)] #[22])) 3 [v28_15]) (fun v29_16 w =>
 gdM (gd v26_14 false) (pureM v23_11) (fun v30_17 w =>
 gdM (gd v26_14 false) (oM Tryz.prog (Go.Op.call (Go.Call.mk (Go.Callee.builtin Go.Builtin.len) #[(.tmp 0)] #[22])) 3 [v30_17]) (fun v31_18 w =>
 gdM (gd v26_14 false) (oM Tryz.prog (Go.Op.binOp Go.BinOp.sub 3 (.tmp 0) (.tmp 1) 3) 3 [v31_18, (.int .i64 1)]) (fun v32_19 w =>
 gdM (gd v26_14 false) (oM Tryz.prog (Go.Op.binOp Go.BinOp.neq 3 (.tmp 0) (.tmp 1) 3) 4 [v29_16, v32_19]) (fun v33_20 w =>
 oM Tryz.prog (Go.Op.pick (.tmp 0) (.tmp 1) (.tmp 2)) 4 [v26_14, (.bool true), v33_20] (fun v34_21 w =>
 gdM (gd v34_21 false) (oM Tryz.prog (Go.Op.load 111 (.tmp 0)) 111 [v11_13]) (fun v36_22 w =>
 gdM (gd v34_21 false) (pureM a4) (fun v37_23 w =>
 gdM (gd v34_21 false) (callM Tryz.prog 72 #[v36_22, (.int .i64 0), v37_23]) (fun v38_24 w =>
 gdM (gd v34_21 false) (oM Tryz.prog (Go.Op.unOp Go.UnOp.not 4 (.tmp 0)) 4 [v38_24]) (fun v39_25 w =>
 oM Tryz.prog (Go.Op.pick (.tmp 0) (.tmp 1) (.tmp 2)) 4 [v34_21, (.bool true), v39_25] (fun v40_26 w =>
 condM v40_26
 (K (.bool false) w)
 (oM Tryz.prog (Go.Op.call (Go.Call.mk (Go.Callee.builtin Go.Builtin.len) #[(.tmp 0)] #[22])) 3 [a4] (fun v42_27 w =>
 loopM [undef, undef, (.bool false), (.int .i64 0)] w (fun J_28 m_29 l_30 u_l_30 w0_l_30 => (fun w => (
 oM Tryz.prog (Go.Op.binOp Go.BinOp.lss 3 (.tmp 0) (.tmp 1) 3) 0 [(l_30.getD 3 undef), v42_27] (fun v44_31 w =>
 condM v44_31
 (oM Tryz.prog (Go.Op.indexAddr 22 (.tmp 0) (.tmp 1)) 0 [a4, (l_30.getD 3 undef)] (fun v46_32 w =>
 oM Tryz.prog (Go.Op.load 3 (.tmp 0)) 3 [v46_32] (fun v47_33 w =>
 heldM w (fun C_34 w => (oH Tryz.prog (Go.Op.load 111 (.tmp 0)) 111 [v11_13] C_34 (fun v48_35 =>
 pureH v47_33 C_34 (fun v49_36 =>
 pureH v23_11 C_34 (fun v50_37 =>
 oH Tryz.prog (Go.Op.indexAddr 22 (.tmp 0) (.tmp 1)) 0 [v50_37, (.int .i64 0)] C_34 (fun v51_38 =>
 oH Tryz.prog (Go.Op.load 3 (.tmp 0)) 3 [v51_38] C_34 (fun v52_39 =>
 pureH v23_11 C_34 (fun v55_40 =>
 pureH (l_30.getD 3 undef) C_34 (fun v56_41 =>
 oH Tryz.prog (Go.Op.binOp Go.BinOp.add 3 (.tmp 0) (.tmp 1) 3) 3 [v56_41, (.int .i64 1)] C_34 (fun v57_42 =>
 oH Tryz.prog (Go.Op.indexAddr 22 (.tmp 0) (.tmp 1)) 0 [v55_40, v57_42] C_34 (fun v58_43 =>
 oH Tryz.prog (Go.Op.load 3 (.tmp 0)) 3 [v58_43] C_34 (fun v59_44 =>
 oM Tryz.prog (Go.Op.buildSlice 22 1 #[(0, (.tmp 0))]) 22 [v52_39] (fun v53_45 w => C_34 w ∧ (
 callM Tryz.prog 75 #[v48_35, v49_36, v53_45] (fun v54_46 w => C_34 w ∧ (
 oM Tryz.prog (Go.Op.binOp Go.BinOp.neq 3 (.tmp 0) (.tmp 1) 3) 4 [v54_46, v59_44] (fun v60_47 w => C_34 w ∧ (
 condM v60_47
 (K (.bool false) w)
 (oM Tryz.prog (Go.Op.binOp Go.BinOp.add 3 (.tmp 0) (.tmp 1) 3) 3 [(l_30.getD 3 undef), (.int .i64 1)] (fun v61_48 w =>
 J_28 [(l_30.getD 3 undef), v47_33, (l_30.getD 2 undef), v61_48] w ∧ m_29 [(l_30.getD 3 undef), v47_33, (l_30.getD 2 undef), v61_48] w < m_29 l_30 w0_l_30) w))) w)) w)) w))))))))))))) w) w)
 (K (.bool true) w)) w)) w0_l_30)) w)) w) w) w) w) w) w) w) w) w) w) w) w) w) w) w) w) w) w) w) w) w) w) w) w) w) w) w
theorem sh_60_eq (a0 : Value) (a1 : Value) (a2 : Value) (a3 : Value) (a4 : Value) (K : Value → World → Prop) (w : World) : sh_60 a0 a1 a2 a3 a4 K w = code Tryz.prog (fun _ => 2) 62 (Tryz.f60.body.getD .skip) (slotsAt [a0, a1, a2, a3, a4]) (retK Tryz.prog [.tmp 10] K) w := by kernel_rfl
theorem sh_60_ok {a0 a1 a2 a3 a4 : Value} {K : Value → World → Prop} {w : World} (h : sh_60 a0 a1 a2 a3 a4 K w) : callM Tryz.prog 60 #[a0, a1, a2, a3, a4] K w :=
  calls_of_code (fun _ => 2) (fn := Tryz.f60) (rs := [.tmp 10]) Tryz.func60 rfl rfl (by kernel_rfl) (Nat.le_of_ble_eq_true rfl) ((sh_60_eq a0 a1 a2 a3 a4 K w).mp h)

/-- cloak/ticket.usable -/
def sh_70 (a0 : Value) (a1 : Value) (K : Value → World → Prop) (w : World) : Prop :=
 oM Tryz.prog (Go.Op.box 35 (.tmp 0)) 0 [a0] (fun v2_1 w =>
 oM Tryz.prog (Go.Op.alloc 111) 0 [] (fun v4_2 w =>
 oM Tryz.prog (Go.Op.load 35 (.tmp 0)) 35 [v2_1] (fun v11_3 w =>
 callM Tryz.prog 95 #[v11_3, a1] (fun v13_4 w =>
 oM Tryz.prog (Go.Op.extract (.tmp 0) 0) 111 [v13_4] (fun v14_5 w =>
 oM Tryz.prog (Go.Op.extract (.tmp 0) 1) 3 [v13_4] (fun v15_6 w =>
 oM Tryz.prog (Go.Op.extract (.tmp 0) 2) 4 [v13_4] (fun v16_7 w =>
 oM Tryz.prog (Go.Op.alloc 111) 0 [] (fun v7_8 w =>
 oM Tryz.prog (Go.Op.store 111 (.tmp 0) (.tmp 1)) 0 [v7_8, v14_5] (fun _ w =>
 oM Tryz.prog (Go.Op.load 111 (.tmp 0)) 111 [v7_8] (fun v17_9 w =>
 gdM (gd v16_7 true) (pureM v15_6) (fun v21_10 w =>
 gdM (gd v16_7 true) (oM Tryz.prog (Go.Op.binOp Go.BinOp.neq 3 (.tmp 0) (.const (.int .i64 1)) 3) 4 [v21_10]) (fun v22_11 w =>
 oM Tryz.prog (Go.Op.pick (.tmp 0) (.tmp 1) (.tmp 2)) 4 [v16_7, v22_11, (.bool false)] (fun v23_12 w =>
 oM Tryz.prog (Go.Op.store 111 (.tmp 0) (.tmp 1)) 0 [v4_2, v17_9] (fun _ w =>
 ∃ r_13, (do loadVar 111 (← asAddr v4_2) : Sem Value).run Tryz.prog w = .ok r_13 w ∧ K (.tuple #[r_13, v15_6, v23_12]) w) w) w) w) w) w) w) w) w) w) w) w) w) w) w
theorem sh_70_eq (a0 : Value) (a1 : Value) (K : Value → World → Prop) (w : World) : sh_70 a0 a1 K w = code Tryz.prog (fun _ => 2) 24 (Tryz.f70.body.getD .skip) (slotsAt [a0, a1]) (retK Tryz.prog [.cell 4 111, .tmp 5, .tmp 6] K) w := by kernel_rfl
theorem sh_70_ok {a0 a1 : Value} {K : Value → World → Prop} {w : World} (h : sh_70 a0 a1 K w) : callM Tryz.prog 70 #[a0, a1] K w :=
  calls_of_code (fun _ => 2) (fn := Tryz.f70) (rs := [.cell 4 111, .tmp 5, .tmp 6]) Tryz.func70 rfl rfl (by kernel_rfl) (Nat.le_of_ble_eq_true rfl) ((sh_70_eq a0 a1 K w).mp h)

/-- (cloak/ticket.desk).blinds -/
def sh_71 (a0 : Value) (a1 : Value) (K : Value → World → Prop) (w : World) : Prop :=
 oM Tryz.prog (Go.Op.box 111 (.tmp 0)) 0 [a0] (fun v2_1 w =>
 oM Tryz.prog (Go.Op.box 28 (.tmp 0)) 0 [a1] (fun v3_2 w =>
 oM Tryz.prog (Go.Op.load 111 (.tmp 0)) 111 [v2_1] (fun v5_3 w =>
 oM Tryz.prog (Go.Op.fieldAddr 28 (.tmp 0) 0) 0 [v3_2] (fun v6_4 w =>
 oM Tryz.prog (Go.Op.load 3 (.tmp 0)) 3 [v6_4] (fun v7_5 w =>
 oM Tryz.prog (Go.Op.fieldAddr 28 (.tmp 0) 1) 0 [v3_2] (fun v8_6 w =>
 oM Tryz.prog (Go.Op.load 3 (.tmp 0)) 3 [v8_6] (fun v9_7 w =>
 oM Tryz.prog (Go.Op.buildSlice 22 2 #[(0, (.tmp 0)), (1, (.tmp 1))]) 22 [v7_5, v9_7] (fun v10_8 w =>
 callM Tryz.prog 72 #[v5_3, (.int .i64 1), v10_8] (fun v11_9 w =>
 gdM (gd v11_9 true) (oM Tryz.prog (Go.Op.load 111 (.tmp 0)) 111 [v2_1]) (fun v13_10 w =>
 gdM (gd v11_9 true) (oM Tryz.prog (Go.Op.fieldAddr 28 (.tmp 0) 2) 0 [v3_2]) (fun v14_11 w =>
 gdM (gd v11_9 true) (oM Tryz.prog (Go.Op.load 3 (.tmp 0)) 3 [v14_11]) (fun v15_12 w =>
 gdM (gd v11_9 true) (oM Tryz.prog (Go.Op.buildSlice 22 1 #[(0, (.tmp 0))]) 22 [v15_12]) (fun v16_13 w =>
 gdM (gd v11_9 true) (callM Tryz.prog 72 #[v13_10, (.int .i64 0), v16_13]) (fun v17_14 w =>
 oM Tryz.prog (Go.Op.pick (.tmp 0) (.tmp 1) (.tmp 2)) 4 [v11_9, v17_14, (.bool false)] (fun v18_15 w =>
 gdM (gd v18_15 true) (oM Tryz.prog (Go.Op.fieldAddr 28 (.tmp 0) 3) 0 [v3_2]) (fun v20_16 w =>
 gdM (gd v18_15 true) (oM Tryz.prog (Go.Op.load 22 (.tmp 0)) 22 [v20_16]) (fun v21_17 w =>
 gdM (gd v18_15 true) (oM Tryz.prog (Go.Op.call (Go.Call.mk (Go.Callee.builtin Go.Builtin.len) #[(.tmp 0)] #[22])) 3 [v21_17]) (fun v22_18 w =>
 gdM (gd v18_15 true) (oM Tryz.prog (Go.Op.fieldAddr 111 (.tmp 0) 0) 0 [v2_1]) (fun v23_19 w =>
 gdM (gd v18_15 true) (oM Tryz.prog (Go.Op.fieldAddr 35 (.tmp 0) 1) 0 [v23_19]) (fun v24_20 w =>
 gdM (gd v18_15 true) (oM Tryz.prog (Go.Op.load 22 (.tmp 0)) 22 [v24_20]) (fun v25_21 w =>
 gdM (gd v18_15 true) (oM Tryz.prog (Go.Op.call (Go.Call.mk (Go.Callee.builtin Go.Builtin.len) #[(.tmp 0)] #[22])) 3 [v25_21]) (fun v26_22 w =>
 gdM (gd v18_15 true) (oM Tryz.prog (Go.Op.binOp Go.BinOp.eql 3 (.tmp 0) (.tmp 1) 3) 4 [v22_18, v26_22]) (fun v27_23 w =>
 oM Tryz.prog (Go.Op.pick (.tmp 0) (.tmp 1) (.tmp 2)) 4 [v18_15, v27_23, (.bool false)] (fun v28_24 w =>
 gdM (gd v28_24 true) (oM Tryz.prog (Go.Op.load 111 (.tmp 0)) 111 [v2_1]) (fun v30_25 w =>
 gdM (gd v28_24 true) (oM Tryz.prog (Go.Op.fieldAddr 28 (.tmp 0) 3) 0 [v3_2]) (fun v31_26 w =>
 gdM (gd v28_24 true) (oM Tryz.prog (Go.Op.load 22 (.tmp 0)) 22 [v31_26]) (fun v32_27 w =>
 gdM (gd v28_24 true) (callM Tryz.prog 72 #[v30_25, (.int .i64 0), v32_27]) (fun v33_28 w =>
 oM Tryz.prog (Go.Op.pick (.tmp 0) (.tmp 1) (.tmp 2)) 4 [v28_24, v33_28, (.bool false)] (fun v34_29 w =>
 K v34_29 w) w) w) w) w) w) w) w) w) w) w) w) w) w) w) w) w) w) w) w) w) w) w) w) w) w) w) w) w) w
theorem sh_71_eq (a0 : Value) (a1 : Value) (K : Value → World → Prop) (w : World) : sh_71 a0 a1 K w = code Tryz.prog (fun _ => 2) 35 (Tryz.f71.body.getD .skip) (slotsAt [a0, a1]) (retK Tryz.prog [.tmp 4] K) w := by kernel_rfl
theorem sh_71_ok {a0 a1 : Value} {K : Value → World → Prop} {w : World} (h : sh_71 a0 a1 K w) : callM Tryz.prog 71 #[a0, a1] K w :=
  calls_of_code (fun _ => 2) (fn := Tryz.f71) (rs := [.tmp 4]) Tryz.func71 rfl rfl (by kernel_rfl) (Nat.le_of_ble_eq_true rfl) ((sh_71_eq a0 a1 K w).mp h)

/-- (cloak/ticket.desk).nums -/
def sh_72 (a0 : Value) (a1 : Value) (a2 : Value) (K : Value → World → Prop) (w : World) : Prop :=
 oM Tryz.prog (Go.Op.box 111 (.tmp 0)) 0 [a0] (fun v3_1 w =>
 oM Tryz.prog (Go.Op.box 3 (.tmp 0)) 0 [a1] (fun v4_2 w =>
 oM Tryz.prog (Go.Op.makeFunc (Go.Fn.func 140) #[] #[(.tmp 0), (.tmp 1)]) 122 [v4_2, v3_1] (fun v8_3 w =>
 callM Tryz.prog 113 #[a2, v8_3] (fun v9_4 w =>
 oM Tryz.prog (Go.Op.unOp Go.UnOp.not 4 (.tmp 0)) 4 [v9_4] (fun v10_5 w =>
 K v10_5 w) w) w) w) w) w
theorem sh_72_eq (a0 : Value) (a1 : Value) (a2 : Value) (K : Value → World → Prop) (w : World) : sh_72 a0 a1 a2 K w = code Tryz.prog (fun _ => 0) 11 (Tryz.f72.body.getD .skip) (slotsAt [a0, a1, a2]) (retK Tryz.prog [.tmp 6] K) w := by kernel_rfl
theorem sh_72_ok {a0 a1 a2 : Value} {K : Value → World → Prop} {w : World} (h : sh_72 a0 a1 a2 K w) : callM Tryz.prog 72 #[a0, a1, a2] K w :=
  calls_of_code (fun _ => 0) (fn := Tryz.f72) (rs := [.tmp 6]) Tryz.func72 rfl rfl (by kernel_rfl) (Nat.le_of_ble_eq_true rfl) ((sh_72_eq a0 a1 a2 K w).mp h)

/-- cloak/ticket.exps -/
def sh_73 (a0 : Value) (K : Value → World → Prop) (w : World) : Prop :=
 callM Tryz.prog 142 #[a0] (fun v4_1 w =>
 oM Tryz.prog (Go.Op.buildSlice 22 1 #[(0, (.tmp 0))]) 22 [(.int .i64 1)] (fun v5_2 w =>
 callM Tryz.prog 141 #[v4_1, (.int .i64 0), v5_2] (fun v6_3 w =>
 K v6_3 w) w) w) w
theorem sh_73_eq (a0 : Value) (K : Value → World → Prop) (w : World) : sh_73 a0 K w = code Tryz.prog (fun _ => 2) 7 (Tryz.f73.body.getD .skip) (slotsAt [a0]) (retK Tryz.prog [.tmp 2] K) w := by kernel_rfl
theorem sh_73_ok {a0 : Value} {K : Value → World → Prop} {w : World} (h : sh_73 a0 K w) : callM Tryz.prog 73 #[a0] K w :=
  calls_of_code (fun _ => 2) (fn := Tryz.f73) (rs := [.tmp 2]) Tryz.func73 rfl rfl (by kernel_rfl) (Nat.le_of_ble_eq_true rfl) ((sh_73_eq a0 K w).mp h)

/-- (cloak/ticket.desk).plus -/
def sh_74 (a0 : Value) (a1 : Value) (a2 : Value) (K : Value → World → Prop) (w : World) : Prop :=
 oM Tryz.prog (Go.Op.box 111 (.tmp 0)) 0 [a0] (fun v3_1 w =>
 oM Tryz.prog (Go.Op.fieldAddr 111 (.tmp 0) 0) 0 [v3_1] (fun v7_2 w =>
 oM Tryz.prog (Go.Op.fieldAddr 35 (.tmp 0) 0) 0 [v7_2] (fun v8_3 w =>
 oM Tryz.prog (Go.Op.fieldAddr 33 (.tmp 0) 1) 0 [v8_3] (fun v9_4 w =>
 oM Tryz.prog (Go.Op.load 3 (.tmp 0)) 3 [v9_4] (fun v10_5 w =>
 callM Tryz.prog 143 #[v10_5, a1, a2] (fun v13_6 w =>
 K v13_6 w) w) w) w) w) w) w
theorem sh_74_eq (a0 : Value) (a1 : Value) (a2 : Value) (K : Value → World → Prop) (w : World) : sh_74 a0 a1 a2 K w = code Tryz.prog (fun _ => 2) 14 (Tryz.f74.body.getD .skip) (slotsAt [a0, a1, a2]) (retK Tryz.prog [.tmp 6] K) w := by kernel_rfl
theorem sh_74_ok {a0 a1 a2 : Value} {K : Value → World → Prop} {w : World} (h : sh_74 a0 a1 a2 K w) : callM Tryz.prog 74 #[a0, a1, a2] K w :=
  calls_of_code (fun _ => 2) (fn := Tryz.f74) (rs := [.tmp 6]) Tryz.func74 rfl rfl (by kernel_rfl) (Nat.le_of_ble_eq_true rfl) ((sh_74_eq a0 a1 a2 K w).mp h)

/-- (cloak/ticket.desk).mul -/
def sh_75 (a0 : Value) (a1 : Value) (a2 : Value) (K : Value → World → Prop) (w : World) : Prop :=
 oM Tryz.prog (Go.Op.box 111 (.tmp 0)) 0 [a0] (fun v3_1 w =>
 oM Tryz.prog (Go.Op.call (Go.Call.mk (Go.Callee.builtin Go.Builtin.len) #[(.tmp 0)] #[22])) 3 [a2] (fun v10_2 w =>
 loopM [undef, a1, (.int .i64 0)] w (fun J_3 m_4 l_5 u_l_5 w0_l_5 => (fun w => (
 oM Tryz.prog (Go.Op.binOp Go.BinOp.lss 3 (.tmp 0) (.tmp 1) 3) 0 [(l_5.getD 2 undef), v10_2] (fun v12_6 w =>
 condM v12_6
 (oM Tryz.prog (Go.Op.indexAddr 22 (.tmp 0) (.tmp 1)) 0 [a2, (l_5.getD 2 undef)] (fun v13_7 w =>
 oM Tryz.prog (Go.Op.load 3 (.tmp 0)) 3 [v13_7] (fun v14_8 w =>
 oM Tryz.prog (Go.Op.fieldAddr 111 (.tmp 0) 0) 0 [v3_1] (fun v15_9 w =>
 oM Tryz.prog (Go.Op.fieldAddr 35 (.tmp 0) 0) 0 [v15_9] (fun v16_10 w =>
 oM Tryz.prog (Go.Op.fieldAddr 33 (.tmp 0) 1) 0 [v16_10] (fun v17_11 w =>
 oM Tryz.prog (Go.Op.load 3 (.tmp 0)) 3 [v17_11] (fun v18_12 w =>
 callM Tryz.prog 16 #[v18_12, (l_5.getD 1 undef), v14_8] (fun v21_13 w =>
 oM Tryz.prog (Go.Op.binOp Go.BinOp.add 3 (.tmp 0) (.tmp 1) 3) 3 [(l_5.getD 2 undef), (.int .i64 1)] (fun v22_14 w =>
 J_3 [v14_8, v21_13, v22_14] w ∧ m_4 [v14_8, v21_13, v22_14] w < m_4 l_5 w0_l_5) w) w) w) w) w) w) w) w)
 (K (l_5.getD 1 undef) w)) w)) w0_l_5)) w) w
theorem sh_75_eq (a0 : Value) (a1 : Value) (a2 : Value) (K : Value → World → Prop) (w : World) : sh_75 a0 a1 a2 K w = code Tryz.prog (fun _ => 2) 24 (Tryz.f75.body.getD .skip) (slotsAt [a0, a1, a2]) (retK Tryz.prog [.tmp 6] K) w := by kernel_rfl
theorem sh_75_ok {a0 a1 a2 : Value} {K : Value → World → Prop} {w : World} (h : sh_75 a0 a1 a2 K w) : callM Tryz.prog 75 #[a0, a1, a2] K w :=
  calls_of_code (fun _ => 2) (fn := Tryz.f75) (rs := [.tmp 6]) Tryz.func75 rfl rfl (by kernel_rfl) (Nat.le_of_ble_eq_true rfl) ((sh_75_eq a0 a1 a2 K w).mp h)

/-- (cloak/ticket.desk).power -/
def sh_76 (a0 : Value) (a1 : Value) (a2 : Value) (K : Value → World → Prop) (w : World) : Prop :=
 oM Tryz.prog (Go.Op.box 111 (.tmp 0)) 0 [a0] (fun v3_1 w =>
 oM Tryz.prog (Go.Op.fieldAddr 111 (.tmp 0) 0) 0 [v3_1] (fun v7_2 w =>
 oM Tryz.prog (Go.Op.fieldAddr 35 (.tmp 0) 0) 0 [v7_2] (fun v8_3 w =>
 oM Tryz.prog (Go.Op.load 33 (.tmp 0)) 33 [v8_3] (fun v9_4 w =>
 callM Tryz.prog 37 #[v9_4, a1, a2] (fun v12_5 w =>
 K v12_5 w) w) w) w) w) w
theorem sh_76_eq (a0 : Value) (a1 : Value) (a2 : Value) (K : Value → World → Prop) (w : World) : sh_76 a0 a1 a2 K w = code Tryz.prog (fun _ => 2) 13 (Tryz.f76.body.getD .skip) (slotsAt [a0, a1, a2]) (retK Tryz.prog [.tmp 6] K) w := by kernel_rfl
theorem sh_76_ok {a0 a1 a2 : Value} {K : Value → World → Prop} {w : World} (h : sh_76 a0 a1 a2 K w) : callM Tryz.prog 76 #[a0, a1, a2] K w :=
  calls_of_code (fun _ => 2) (fn := Tryz.f76) (rs := [.tmp 6]) Tryz.func76 rfl rfl (by kernel_rfl) (Nat.le_of_ble_eq_true rfl) ((sh_76_eq a0 a1 a2 K w).mp h)

/-- (cloak/ticket.desk).generated -/
def sh_77 (a0 : Value) (a1 : Value) (K : Value → World → Prop) (w : World) : Prop :=
 oM Tryz.prog (Go.Op.box 111 (.tmp 0)) 0 [a0] (fun v2_1 w =>
 oM Tryz.prog (Go.Op.load 111 (.tmp 0)) 111 [v2_1] (fun v5_2 w =>
 oM Tryz.prog (Go.Op.fieldAddr 111 (.tmp 0) 0) 0 [v2_1] (fun v6_3 w =>
 oM Tryz.prog (Go.Op.fieldAddr 35 (.tmp 0) 0) 0 [v6_3] (fun v7_4 w =>
 oM Tryz.prog (Go.Op.fieldAddr 33 (.tmp 0) 2) 0 [v7_4] (fun v8_5 w =>
 oM Tryz.prog (Go.Op.load 3 (.tmp 0)) 3 [v8_5] (fun v9_6 w =>
 callM Tryz.prog 76 #[v5_2, v9_6, a1] (fun v11_7 w =>
 K v11_7 w) w) w) w) w) w) w) w
theorem sh_77_eq (a0 : Value) (a1 : Value) (K : Value → World → Prop) (w : World) : sh_77 a0 a1 K w = code Tryz.prog (fun _ => 2) 12 (Tryz.f77.body.getD .skip) (slotsAt [a0, a1]) (retK Tryz.prog [.tmp 4] K) w := by kernel_rfl
theorem sh_77_ok {a0 a1 : Value} {K : Value → World → Prop} {w : World} (h : sh_77 a0 a1 K w) : callM Tryz.prog 77 #[a0, a1] K w :=
  calls_of_code (fun _ => 2) (fn := Tryz.f77) (rs := [.tmp 4]) Tryz.func77 rfl rfl (by kernel_rfl) (Nat.le_of_ble_eq_true rfl) ((sh_77_eq a0 a1 K w).mp h)

/-- cloak/ticket.open -/
def sh_78 (a0 : Value) (K : Value → World → Prop) (w : World) : Prop :=
 oM Tryz.prog (Go.Op.box 35 (.tmp 0)) 0 [a0] (fun v1_1 w =>
 oM Tryz.prog (Go.Op.alloc 111) 0 [] (fun v2_2 w =>
 heldM w (fun C_3 w => (oH Tryz.prog (Go.Op.load 35 (.tmp 0)) 35 [v1_1] C_3 (fun v4_4 =>
 oH Tryz.prog (Go.Op.load 35 (.tmp 0)) 35 [v1_1] C_3 (fun v6_5 =>
 (oM Tryz.prog (Go.Op.build 111 #[(0, (.tmp 0))]) 111 [v4_4] (fun v5_6 w => C_3 w ∧ (
 callM Tryz.prog 135 #[v6_5] (fun v7_7 w => C_3 w ∧ (
 oM Tryz.prog (Go.Op.store 111 (.tmp 0) (.tmp 1)) 0 [v2_2, v5_6] (fun _ w => C_3 w ∧ (
 C_3 w ∧ (∃ r_9, (do loadVar 111 (← asAddr v2_2) : Sem Value).run Tryz.prog w = .ok r_9 w ∧ K (.tuple #[r_9, v7_7]) w))) w)) w)) w) ∧
 (callM Tryz.prog 135 #[v6_5] (fun v7_10 w => C_3 w ∧ (
 oM Tryz.prog (Go.Op.build 111 #[(0, (.tmp 0))]) 111 [v4_4] (fun v5_11 w => C_3 w ∧ (
 oM Tryz.prog (Go.Op.store 111 (.tmp 0) (.tmp 1)) 0 [v2_2, v5_11] (fun _ w => C_3 w ∧ (
 C_3 w ∧ (∃ r_13, (do loadVar 111 (← asAddr v2_2) : Sem Value).run Tryz.prog w = .ok r_13 w ∧ K (.tuple #[r_13, v7_10]) w))) w)) w)) w)))))) w) w
theorem sh_78_eq (a0 : Value) (K : Value → World → Prop) (w : World) : sh_78 a0 K w = code Tryz.prog (fun _ => .tree (.look 0 (.look 2 (.alt 1 (.only 3 (.only 4 (.only 5 (.done)))) (.only 3 (.only 1 (.only 4 (.only 5 (.done))))))))) 8 (Tryz.f78.body.getD .skip) (slotsAt [a0]) (retK Tryz.prog [.cell 2 111, .tmp 3] K) w := by kernel_rfl
theorem sh_78_ok {a0 : Value} {K : Value → World → Prop} {w : World} (h : sh_78 a0 K w) : callM Tryz.prog 78 #[a0] K w :=
  calls_of_code (fun _ => .tree (.look 0 (.look 2 (.alt 1 (.only 3 (.only 4 (.only 5 (.done)))) (.only 3 (.only 1 (.only 4 (.only 5 (.done))))))))) (fn := Tryz.f78) (rs := [.cell 2 111, .tmp 3]) Tryz.func78 rfl rfl (by kernel_rfl) (Nat.le_of_ble_eq_true rfl) ((sh_78_eq a0 K w).mp h)

/-- cloak/ticket.mark -/
def sh_95 (a0 : Value) (a1 : Value) (K : Value → World → Prop) (w : World) : Prop :=
 oM Tryz.prog (Go.Op.box 35 (.tmp 0)) 0 [a0] (fun v2_1 w =>
 oM Tryz.prog (Go.Op.alloc 111) 0 [] (fun v4_2 w =>
 oM Tryz.prog (Go.Op.load 35 (.tmp 0)) 35 [v2_1] (fun v10_3 w =>
 callM Tryz.prog 78 #[v10_3] (fun v11_4 w =>
 oM Tryz.prog (Go.Op.extract (.tmp 0) 0) 111 [v11_4] (fun v12_5 w =>
 oM Tryz.prog (Go.Op.extract (.tmp 0) 1) 4 [v11_4] (fun v13_6 w =>
 oM Tryz.prog (Go.Op.alloc 111) 0 [] (fun v7_7 w =>
 oM Tryz.prog (Go.Op.store 111 (.tmp 0) (.tmp 1)) 0 [v7_7, v12_5] (fun _ w =>
 oM Tryz.prog (Go.Op.unOp Go.UnOp.not 4 (.tmp 0)) 4 [v13_6] (fun v15_8 w =>
 gdM (gd v15_8 false) (pureM a1) (fun v17_9 w =>
 gdM (gd v15_8 false) (oM Tryz.prog (Go.Op.call (Go.Call.mk (Go.Callee.builtin Go.Builtin.len) #[(.tmp 0)] #[22])) 3 [v17_9]) (fun v18_10 w =>
 gdM (gd v15_8 false) (oM Tryz.prog (Go.Op.fieldAddr 35 (.tmp 0) 1) 0 [v2_1]) (fun v19_11 w =>
 gdM (gd v15_8 false) (oM Tryz.prog (Go.Op.load 22 (.tmp 0)) 22 [v19_11]) (fun v20_12 w =>
 gdM (gd v15_8 false) (oM Tryz.prog (Go.Op.call (Go.Call.mk (Go.Callee.builtin Go.Builtin.len) #[(.tmp 0)] #[22])) 3 [v20_12]) (fun v21_13 w =>
 gdM (gd v15_8 false) (oM Tryz.prog (Go.Op.binOp Go.BinOp.sub 3 (.tmp 0) (.tmp 1) 3) 3 [v21_13, (.int .i64 1)]) (fun v22_14 w =>
 gdM (gd v15_8 false) (oM Tryz.prog (Go.Op.binOp Go.BinOp.neq 3 (.tmp 0) (.tmp 1) 3) 4 [v18_10, v22_14]) (fun v23_15 w =>
 oM Tryz.prog (Go.Op.pick (.tmp 0) (.tmp 1) (.tmp 2)) 4 [v15_8, (.bool true), v23_15] (fun v24_16 w =>
 gdM (gd v24_16 false) (oM Tryz.prog (Go.Op.load 111 (.tmp 0)) 111 [v7_7]) (fun v26_17 w =>
 gdM (gd v24_16 false) (pureM a1) (fun v27_18 w =>
 gdM (gd v24_16 false) (callM Tryz.prog 72 #[v26_17, (.int .i64 0), v27_18]) (fun v28_19 w =>
 gdM (gd v24_16 false) (oM Tryz.prog (Go.Op.unOp Go.UnOp.not 4 (.tmp 0)) 4 [v28_19]) (fun v29_20 w =>
 oM Tryz.prog (Go.Op.pick (.tmp 0) (.tmp 1) (.tmp 2)) 4 [v24_16, (.bool true), v29_20] (fun v30_21 w =>
 gdM (gd v30_21 false) (pureM a1) (fun v32_22 w =>
 gdM (gd v30_21 false) (oM Tryz.prog (Go.Op.indexAddr 22 (.tmp 0) (.tmp 1)) 0 [v32_22, (.int .i64 0)]) (fun v33_23 w =>
 gdM (gd v30_21 false) (oM Tryz.prog (Go.Op.load 3 (.tmp 0)) 3 [v33_23]) (fun v34_24 w =>
 gdM (gd v30_21 false) (oM Tryz.prog (Go.Op.binOp Go.BinOp.eql 3 (.tmp 0) (.const (.int .i64 0)) 3) 4 [v34_24]) (fun v35_25 w =>
 oM Tryz.prog (Go.Op.pick (.tmp 0) (.tmp 1) (.tmp 2)) 4 [v30_21, (.bool true), v35_25] (fun v36_26 w =>
 condM v36_26
 (oM Tryz.prog (Go.Op.load 111 (.tmp 0)) 111 [v7_7] (fun v37_27 w =>
 oM Tryz.prog (Go.Op.store 111 (.tmp 0) (.tmp 1)) 0 [v4_2, v37_27] (fun _ w =>
 ∃ r_28, (do loadVar 111 (← asAddr v4_2) : Sem Value).run Tryz.prog w = .ok r_28 w ∧ K (.tuple #[r_28, (.int .i64 0), (.bool false)]) w) w) w)
 (heldM w (fun C_29 w => (oH Tryz.prog (Go.Op.load 111 (.tmp 0)) 111 [v7_7] C_29 (fun v38_30 =>
 oH Tryz.prog (Go.Op.load 111 (.tmp 0)) 111 [v7_7] C_29 (fun v39_31 =>
 pureH a1 C_29 (fun v40_32 =>
 callM Tryz.prog 73 #[v40_32] (fun v41_33 w => C_29 w ∧ (
 callM Tryz.prog 126 #[v39_31, v41_33] (fun v42_34 w => C_29 w ∧ (
 oM Tryz.prog (Go.Op.store 111 (.tmp 0) (.tmp 1)) 0 [v4_2, v38_30] (fun _ w => C_29 w ∧ (
 C_29 w ∧ (C_29 w ∧ (∃ r_37, (do loadVar 111 (← asAddr v4_2) : Sem Value).run Tryz.prog w = .ok r_37 w ∧ K (.tuple #[r_37, v42_34, (.bool true)]) w)))) w)) w)) w))))))) w) w) w) w) w) w) w) w) w) w) w) w) w) w) w) w) w) w) w) w) w) w) w) w) w) w) w
theorem sh_95_eq (a0 : Value) (a1 : Value) (K : Value → World → Prop) (w : World) : sh_95 a0 a1 K w = code Tryz.prog (fun _ => 2) 43 (Tryz.f95.body.getD .skip) (slotsAt [a0, a1]) (retK Tryz.prog [.cell 4 111, .tmp 5, .tmp 6] K) w := by kernel_rfl
theorem sh_95_ok {a0 a1 : Value} {K : Value → World → Prop} {w : World} (h : sh_95 a0 a1 K w) : callM Tryz.prog 95 #[a0, a1] K w :=
  calls_of_code (fun _ => 2) (fn := Tryz.f95) (rs := [.cell 4 111, .tmp 5, .tmp 6]) Tryz.func95 rfl rfl (by kernel_rfl) (Nat.le_of_ble_eq_true rfl) ((sh_95_eq a0 a1 K w).mp h)

/-- (cloak/ticket.desk).over -/
def sh_105 (a0 : Value) (a1 : Value) (a2 : Value) (K : Value → World → Prop) (w : World) : Prop :=
 oM Tryz.prog (Go.Op.box 111 (.tmp 0)) 0 [a0] (fun v3_1 w =>
 heldM w (fun C_2 w => (oH Tryz.prog (Go.Op.load 111 (.tmp 0)) 111 [v3_1] C_2 (fun v7_3 =>
 pureH a1 C_2 (fun v8_4 =>
 oH Tryz.prog (Go.Op.fieldAddr 111 (.tmp 0) 0) 0 [v3_1] C_2 (fun v9_5 =>
 oH Tryz.prog (Go.Op.fieldAddr 35 (.tmp 0) 0) 0 [v9_5] C_2 (fun v10_6 =>
 oH Tryz.prog (Go.Op.fieldAddr 33 (.tmp 0) 1) 0 [v10_6] C_2 (fun v11_7 =>
 oH Tryz.prog (Go.Op.load 3 (.tmp 0)) 3 [v11_7] C_2 (fun v12_8 =>
 pureH a2 C_2 (fun v13_9 =>
 callM Tryz.prog 134 #[v12_8, v13_9, (.int .i64 (-1))] (fun v14_10 w => C_2 w ∧ (
 oM Tryz.prog (Go.Op.buildSlice 22 1 #[(0, (.tmp 0))]) 22 [v14_10] (fun v15_11 w => C_2 w ∧ (
 callM Tryz.prog 75 #[v7_3, v8_4, v15_11] (fun v16_12 w => C_2 w ∧ (
 C_2 w ∧ (K v16_12 w))) w)) w)) w)))))))))) w
theorem sh_105_eq (a0 : Value) (a1 : Value) (a2 : Value) (K : Value → World → Prop) (w : World) : sh_105 a0 a1 a2 K w = code Tryz.prog (fun _ => 2) 17 (Tryz.f105.body.getD .skip) (slotsAt [a0, a1, a2]) (retK Tryz.prog [.tmp 6] K) w := by kernel_rfl
theorem sh_105_ok {a0 a1 a2 : Value} {K : Value → World → Prop} {w : World} (h : sh_105 a0 a1 a2 K w) : callM Tryz.prog 105 #[a0, a1, a2] K w :=
  calls_of_code (fun _ => 2) (fn := Tryz.f105) (rs := [.tmp 6]) Tryz.func105 rfl rfl (by kernel_rfl) (Nat.le_of_ble_eq_true rfl) ((sh_105_eq a0 a1 a2 K w).mp h)

/-- (cloak/ticket.desk).less -/
def sh_108 (a0 : Value) (a1 : Value) (a2 : Value) (K : Value → World → Prop) (w : World) : Prop :=
 oM Tryz.prog (Go.Op.box 111 (.tmp 0)) 0 [a0] (fun v3_1 w =>
 oM Tryz.prog (Go.Op.fieldAddr 111 (.tmp 0) 0) 0 [v3_1] (fun v7_2 w =>
 oM Tryz.prog (Go.Op.fieldAddr 35 (.tmp 0) 0) 0 [v7_2] (fun v8_3 w =>
 oM Tryz.prog (Go.Op.fieldAddr 33 (.tmp 0) 1) 0 [v8_3] (fun v9_4 w =>
 oM Tryz.prog (Go.Op.load 3 (.tmp 0)) 3 [v9_4] (fun v10_5 w =>
 callM Tryz.prog 17 #[v10_5, a1, a2] (fun v13_6 w =>
 K v13_6 w) w) w) w) w) w) w
theorem sh_108_eq (a0 : Value) (a1 : Value) (a2 : Value) (K : Value → World → Prop) (w : World) : sh_108 a0 a1 a2 K w = code Tryz.prog (fun _ => 2) 14 (Tryz.f108.body.getD .skip) (slotsAt [a0, a1, a2]) (retK Tryz.prog [.tmp 6] K) w := by kernel_rfl
theorem sh_108_ok {a0 a1 a2 : Value} {K : Value → World → Prop} {w : World} (h : sh_108 a0 a1 a2 K w) : callM Tryz.prog 108 #[a0, a1, a2] K w :=
  calls_of_code (fun _ => 2) (fn := Tryz.f108) (rs := [.tmp 6]) Tryz.func108 rfl rfl (by kernel_rfl) (Nat.le_of_ble_eq_true rfl) ((sh_108_eq a0 a1 a2 K w).mp h)

/-- slices.ContainsFunc[[]int,int] -/
def sh_113 (a0 : Value) (a1 : Value) (K : Value → World → Prop) (w : World) : Prop :=
 callM Tryz.prog 160 #[a0, a1] (fun v7_1 w =>
 oM Tryz.prog (Go.Op.binOp Go.BinOp.geq 3 (.tmp 0) (.tmp 1) 3) 4 [v7_1, (.int .i64 0)] (fun v8_2 w =>
 K v8_2 w) w) w
theorem sh_113_eq (a0 : Value) (a1 : Value) (K : Value → World → Prop) (w : World) : sh_113 a0 a1 K w = code Tryz.prog (fun _ => 0) 9 (Tryz.f113.body.getD .skip) (slotsAt [a0, a1]) (retK Tryz.prog [.tmp 4] K) w := by kernel_rfl
theorem sh_113_ok {a0 a1 : Value} {K : Value → World → Prop} {w : World} (h : sh_113 a0 a1 K w) : callM Tryz.prog 113 #[a0, a1] K w :=
  calls_of_code (fun _ => 0) (fn := Tryz.f113) (rs := [.tmp 4]) Tryz.func113 rfl rfl (by kernel_rfl) (Nat.le_of_ble_eq_true rfl) ((sh_113_eq a0 a1 K w).mp h)

/-- cloak/ticket.gaps -/
def sh_120 (a0 : Value) (a1 : Value) (a2 : Value) (a3 : Value) (K : Value → World → Prop) (w : World) : Prop :=
 oM Tryz.prog (Go.Op.box 35 (.tmp 0)) 0 [a0] (fun v4_1 w =>
 oM Tryz.prog (Go.Op.box 43 (.tmp 0)) 0 [a1] (fun v5_2 w =>
 oM Tryz.prog (Go.Op.box 47 (.tmp 0)) 0 [a2] (fun v6_3 w =>
 oM Tryz.prog (Go.Op.box 47 (.tmp 0)) 0 [a3] (fun v7_4 w =>
 oM Tryz.prog (Go.Op.alloc 111) 0 [] (fun v8_5 w =>
 oM Tryz.prog (Go.Op.fieldAddr 47 (.tmp 0) 0) 0 [v6_3] (fun v15_6 w =>
 oM Tryz.prog (Go.Op.load 3 (.tmp 0)) 3 [v15_6] (fun v16_7 w =>
 oM Tryz.prog (Go.Op.fieldAddr 47 (.tmp 0) 0) 0 [v7_4] (fun v17_8 w =>
 oM Tryz.prog (Go.Op.load 3 (.tmp 0)) 3 [v17_8] (fun v18_9 w =>
 oM Tryz.prog (Go.Op.binOp Go.BinOp.eql 3 (.tmp 0) (.tmp 1) 3) 4 [v16_7, v18_9] (fun v19_10 w =>
 gdM (gd v19_10 false) (oM Tryz.prog (Go.Op.load 35 (.tmp 0)) 35 [v4_1]) (fun v21_11 w =>
 gdM (gd v19_10 false) (oM Tryz.prog (Go.Op.load 43 (.tmp 0)) 43 [v5_2]) (fun v22_12 w =>
 gdM (gd v19_10 false) (oM Tryz.prog (Go.Op.load 47 (.tmp 0)) 47 [v6_3]) (fun v23_13 w =>
 gdM (gd v19_10 false) (callM Tryz.prog 57 #[v21_11, v22_12, v23_13]) (fun v24_14 w =>
 gdM (gd v19_10 false) (oM Tryz.prog (Go.Op.unOp Go.UnOp.not 4 (.tmp 0)) 4 [v24_14]) (fun v25_15 w =>
 oM Tryz.prog (Go.Op.pick (.tmp 0) (.tmp 1) (.tmp 2)) 4 [v19_10, (.bool true), v25_15] (fun v26_16 w =>
 gdM (gd v26_16 false) (oM Tryz.prog (Go.Op.load 35 (.tmp 0)) 35 [v4_1]) (fun v28_17 w =>
 gdM (gd v26_16 false) (oM Tryz.prog (Go.Op.load 43 (.tmp 0)) 43 [v5_2]) (fun v29_18 w =>
 gdM (gd v26_16 false) (oM Tryz.prog (Go.Op.load 47 (.tmp 0)) 47 [v7_4]) (fun v30_19 w =>
 gdM (gd v26_16 false) (callM Tryz.prog 57 #[v28_17, v29_18, v30_19]) (fun v31_20 w =>
 gdM (gd v26_16 false) (oM Tryz.prog (Go.Op.unOp Go.UnOp.not 4 (.tmp 0)) 4 [v31_20]) (fun v32_21 w =>
 oM Tryz.prog (Go.Op.pick (.tmp 0) (.tmp 1) (.tmp 2)) 4 [v26_16, (.bool true), v32_21] (fun v33_22 w =>
 condM v33_22
 (oM Tryz.prog (Go.Op.build 111 #[]) 111 [] (fun v34_23 w =>
 oM Tryz.prog (Go.Op.store 111 (.tmp 0) (.tmp 1)) 0 [v8_5, v34_23] (fun _ w =>
 ∃ r_24, (do loadVar 111 (← asAddr v8_5) : Sem Value).run Tryz.prog w = .ok r_24 w ∧ K (.tuple #[r_24, (.slice none 0 0), (.bool false)]) w) w) w)
 (oM Tryz.prog (Go.Op.load 35 (.tmp 0)) 35 [v4_1] (fun v35_25 w =>
 oM Tryz.prog (Go.Op.build 111 #[(0, (.tmp 0))]) 111 [v35_25] (fun v36_26 w =>
 oM Tryz.prog (Go.Op.alloc 111) 0 [] (fun v11_27 w =>
 oM Tryz.prog (Go.Op.store 111 (.tmp 0) (.tmp 1)) 0 [v11_27, v36_26] (fun _ w =>
 oM Tryz.prog (Go.Op.fieldAddr 47 (.tmp 0) 1) 0 [v6_3] (fun v37_28 w =>
 oM Tryz.prog (Go.Op.load 22 (.tmp 0)) 22 [v37_28] (fun v38_29 w =>
 oM Tryz.prog (Go.Op.call (Go.Call.mk (Go.Callee.builtin Go.Builtin.len) #[(.tmp 0)] #[22])) 3 [v38_29] (fun v39_30 w =>
 loopM [undef, undef, (.slice none 0 0), (.int .i64 0)] w (fun J_31 m_32 l_33 u_l_33 w0_l_33 => (fun w => (
 oM Tryz.prog (Go.Op.binOp Go.BinOp.lss 3 (.tmp 0) (.tmp 1) 3) 0 [(l_33.getD 3 undef), v39_30] (fun v41_34 w =>
 condM v41_34
 (oM Tryz.prog (Go.Op.indexAddr 22 (.tmp 0) (.tmp 1)) 0 [v38_29, (l_33.getD 3 undef)] (fun v43_35 w =>
 oM Tryz.prog (Go.Op.load 3 (.tmp 0)) 3 [v43_35] (fun v44_36 w =>
 heldM w (fun C_37 w => (pureH (l_33.getD 2 undef) C_37 (fun v45_38 =>
 oH Tryz.prog (Go.Op.load 111 (.tmp 0)) 111 [v11_27] C_37 (fun v46_39 =>
 pureH v44_36 C_37 (fun v47_40 =>
 oH Tryz.prog (Go.Op.fieldAddr 47 (.tmp 0) 1) 0 [v7_4] C_37 (fun v48_41 =>
 oH Tryz.prog (Go.Op.load 22 (.tmp 0)) 22 [v48_41] C_37 (fun v49_42 =>
 pureH (l_33.getD 3 undef) C_37 (fun v50_43 =>
 oH Tryz.prog (Go.Op.indexAddr 22 (.tmp 0) (.tmp 1)) 0 [v49_42, v50_43] C_37 (fun v51_44 =>
 oH Tryz.prog (Go.Op.load 3 (.tmp 0)) 3 [v51_44] C_37 (fun v52_45 =>
 callM Tryz.prog 108 #[v46_39, v47_40, v52_45] (fun v53_46 w => C_37 w ∧ (
 oM Tryz.prog (Go.Op.buildSlice 22 1 #[(0, (.tmp 0))]) 22 [v53_46] (fun v54_47 w => C_37 w ∧ (
 oM Tryz.prog (Go.Op.call (Go.Call.mk (Go.Callee.builtin Go.Builtin.append) #[(.tmp 0), (.tmp 1)] #[22, 22])) 22 [v45_38, v54_47] (fun v55_48 w => C_37 w ∧ (
 C_37 w ∧ (oM Tryz.prog (Go.Op.binOp Go.BinOp.add 3 (.tmp 0) (.tmp 1) 3) 3 [(l_33.getD 3 undef), (.int .i64 1)] (fun v56_50 w =>
 J_31 [(l_33.getD 3 undef), v44_36, v55_48, v56_50] w ∧ m_32 [(l_33.getD 3 undef), v44_36, v55_48, v56_50] w < m_32 l_33 w0_l_33) w))) w)) w)) w))))))))))) w) w)
 (heldM w (fun C_51 w => (oH Tryz.prog (Go.Op.load 111 (.tmp 0)) 111 [v11_27] C_51 (fun v57_52 =>
 pureH (l_33.getD 2 undef) C_51 (fun v58_53 =>
 pureH (l_33.getD 2 undef) C_51 (fun v59_54 =>
 oH Tryz.prog (Go.Op.indexAddr 22 (.tmp 0) (.tmp 1)) 0 [v59_54, (.int .i64 0)] C_51 (fun v60_55 =>
 oH Tryz.prog (Go.Op.load 3 (.tmp 0)) 3 [v60_55] C_51 (fun v61_56 =>
 oH Tryz.prog (Go.Op.binOp Go.BinOp.neq 3 (.tmp 0) (.const (.int .i64 0)) 3) 4 [v61_56] C_51 (fun v62_57 =>
 oM Tryz.prog (Go.Op.store 111 (.tmp 0) (.tmp 1)) 0 [v8_5, v57_52] (fun _ w => C_51 w ∧ (
 C_51 w ∧ (C_51 w ∧ (∃ r_60, (do loadVar 111 (← asAddr v8_5) : Sem Value).run Tryz.prog w = .ok r_60 w ∧ K (.tuple #[r_60, v58_53, v62_57]) w)))) w)))))))))) w)) w0_l_33)) w) w) w) w) w) w) w)) w) w) w) w) w) w) w) w) w) w) w) w) w) w) w) w) w) w) w) w) w) w
theorem sh_120_eq (a0 : Value) (a1 : Value) (a2 : Value) (a3 : Value) (K : Value → World → Prop) (w : World) : sh_120 a0 a1 a2 a3 K w = code Tryz.prog (fun _ => 2) 63 (Tryz.f120.body.getD .skip) (slotsAt [a0, a1, a2, a3]) (retK Tryz.prog [.cell 8 111, .tmp 9, .tmp 10] K) w := by kernel_rfl
theorem sh_120_ok {a0 a1 a2 a3 : Value} {K : Value → World → Prop} {w : World} (h : sh_120 a0 a1 a2 a3 K w) : callM Tryz.prog 120 #[a0, a1, a2, a3] K w :=
  calls_of_code (fun _ => 2) (fn := Tryz.f120) (rs := [.cell 8 111, .tmp 9, .tmp 10]) Tryz.func120 rfl rfl (by kernel_rfl) (Nat.le_of_ble_eq_true rfl) ((sh_120_eq a0 a1 a2 a3 K w).mp h)

/-- cloak/ticket.formed -/
def sh_124 (a0 : Value) (a1 : Value) (K : Value → World → Prop) (w : World) : Prop :=
 oM Tryz.prog (Go.Op.box 35 (.tmp 0)) 0 [a0] (fun v2_1 w =>
 oM Tryz.prog (Go.Op.box 43 (.tmp 0)) 0 [a1] (fun v3_2 w =>
 oM Tryz.prog (Go.Op.alloc 111) 0 [] (fun v4_3 w =>
 oM Tryz.prog (Go.Op.load 35 (.tmp 0)) 35 [v2_1] (fun v9_4 w =>
 callM Tryz.prog 78 #[v9_4] (fun v10_5 w =>
 oM Tryz.prog (Go.Op.extract (.tmp 0) 0) 111 [v10_5] (fun v11_6 w =>
 oM Tryz.prog (Go.Op.extract (.tmp 0) 1) 4 [v10_5] (fun v12_7 w =>
 oM Tryz.prog (Go.Op.alloc 111) 0 [] (fun v6_8 w =>
 oM Tryz.prog (Go.Op.store 111 (.tmp 0) (.tmp 1)) 0 [v6_8, v11_6] (fun _ w =>
 heldM w (fun C_9 w => (oH Tryz.prog (Go.Op.load 111 (.tmp 0)) 111 [v6_8] C_9 (fun v13_10 =>
 pureH v12_7 C_9 (fun v14_11 =>
 pureH v14_11 C_9 (fun v15_12 =>
 gdH (gd v15_12 true) (oH Tryz.prog (Go.Op.fieldAddr 43 (.tmp 0) 0) 0 [v3_2]) C_9 (fun v16_13 =>
 gdH (gd v15_12 true) (oH Tryz.prog (Go.Op.load 3 (.tmp 0)) 3 [v16_13]) C_9 (fun v17_14 =>
 gdH (gd v15_12 true) (oH Tryz.prog (Go.Op.binOp Go.BinOp.neq 3 (.tmp 0) (.const (.int .i64 1)) 3) 4 [v17_14]) C_9 (fun v18_15 =>
 oH Tryz.prog (Go.Op.pick (.tmp 0) (.tmp 1) (.tmp 2)) 4 [v15_12, v18_15, (.bool false)] C_9 (fun v19_16 =>
 pureH v19_16 C_9 (fun v20_17 =>
 gdH (gd v20_17 true) (oH Tryz.prog (Go.Op.load 111 (.tmp 0)) 111 [v6_8]) C_9 (fun v21_18 =>
 gdH (gd v20_17 true) (oH Tryz.prog (Go.Op.fieldAddr 43 (.tmp 0) 0) 0 [v3_2]) C_9 (fun v22_19 =>
 gdH (gd v20_17 true) (oH Tryz.prog (Go.Op.load 3 (.tmp 0)) 3 [v22_19]) C_9 (fun v23_20 =>
 gdH (gd v20_17 true) (oH Tryz.prog (Go.Op.fieldAddr 43 (.tmp 0) 1) 0 [v3_2]) C_9 (fun v24_21 =>
 gdH (gd v20_17 true) (oH Tryz.prog (Go.Op.load 3 (.tmp 0)) 3 [v24_21]) C_9 (fun v25_22 =>
 gdH (gd v20_17 true) (oH Tryz.prog (Go.Op.fieldAddr 43 (.tmp 0) 2) 0 [v3_2]) C_9 (fun v26_23 =>
 gdH (gd v20_17 true) (oH Tryz.prog (Go.Op.load 3 (.tmp 0)) 3 [v26_23]) C_9 (fun v27_24 =>
 gdH (gd v20_17 true) (oH Tryz.prog (Go.Op.fieldAddr 43 (.tmp 0) 3) 0 [v3_2]) C_9 (fun v28_25 =>
 gdH (gd v20_17 true) (oH Tryz.prog (Go.Op.load 3 (.tmp 0)) 3 [v28_25]) C_9 (fun v29_26 =>
 gdH (gd v20_17 true) (oH Tryz.prog (Go.Op.fieldAddr 43 (.tmp 0) 4) 0 [v3_2]) C_9 (fun v30_27 =>
 gdH (gd v20_17 true) (oH Tryz.prog (Go.Op.load 3 (.tmp 0)) 3 [v30_27]) C_9 (fun v31_28 =>
 gdM (gd v20_17 true) (oM Tryz.prog (Go.Op.buildSlice 22 5 #[(0, (.tmp 0)), (1, (.tmp 1)), (2, (.tmp 2)), (3, (.tmp 3)), (4, (.tmp 4))]) 22 [v23_20, v25_22, v27_24, v29_26, v31_28]) (fun v32_29 w => C_9 w ∧ (
 gdM (gd v20_17 true) (callM Tryz.prog 146 #[v21_18, v32_29]) (fun v33_30 w => C_9 w ∧ (
 oH Tryz.prog (Go.Op.pick (.tmp 0) (.tmp 1) (.tmp 2)) 4 [v20_17, v33_30, (.bool false)] C_9 (fun v34_31 =>
 pureH v34_31 C_9 (fun v35_32 =>
 gdH (gd v35_32 true) (oH Tryz.prog (Go.Op.load 111 (.tmp 0)) 111 [v6_8]) C_9 (fun v36_33 =>
 gdH (gd v35_32 true) (oH Tryz.prog (Go.Op.fieldAddr 43 (.tmp 0) 5) 0 [v3_2]) C_9 (fun v37_34 =>
 gdH (gd v35_32 true) (oH Tryz.prog (Go.Op.load 3 (.tmp 0)) 3 [v37_34]) C_9 (fun v38_35 =>
 gdM (gd v35_32 true) (oM Tryz.prog (Go.Op.buildSlice 22 1 #[(0, (.tmp 0))]) 22 [v38_35]) (fun v39_36 w => C_9 w ∧ (
 gdM (gd v35_32 true) (callM Tryz.prog 72 #[v36_33, (.int .i64 0), v39_36]) (fun v40_37 w => C_9 w ∧ (
 oH Tryz.prog (Go.Op.pick (.tmp 0) (.tmp 1) (.tmp 2)) 4 [v35_32, v40_37, (.bool false)] C_9 (fun v41_38 =>
 oM Tryz.prog (Go.Op.store 111 (.tmp 0) (.tmp 1)) 0 [v4_3, v13_10] (fun _ w => C_9 w ∧ (
 C_9 w ∧ (∃ r_40, (do loadVar 111 (← asAddr v4_3) : Sem Value).run Tryz.prog w = .ok r_40 w ∧ K (.tuple #[r_40, v41_38]) w))) w))) w)) w))))))) w)) w)))))))))))))))))))))) w) w) w) w) w) w) w) w) w
theorem sh_124_eq (a0 : Value) (a1 : Value) (K : Value → World → Prop) (w : World) : sh_124 a0 a1 K w = code Tryz.prog (fun _ => .tree (.look 0 (.look 1 (.look 2 (.look 3 (.look 4 (.look 5 (.look 6 (.look 7 (.look 8 (.look 9 (.look 10 (.look 11 (.look 12 (.look 13 (.look 14 (.look 15 (.look 16 (.look 17 (.look 18 (.only 19 (.only 20 (.look 21 (.look 22 (.look 23 (.look 24 (.look 25 (.only 26 (.only 27 (.look 28 (.only 29 (.only 30 (.done))))))))))))))))))))))))))))))))) 42 (Tryz.f124.body.getD .skip) (slotsAt [a0, a1]) (retK Tryz.prog [.cell 4 111, .tmp 5] K) w := by kernel_rfl
theorem sh_124_ok {a0 a1 : Value} {K : Value → World → Prop} {w : World} (h : sh_124 a0 a1 K w) : callM Tryz.prog 124 #[a0, a1] K w :=
  calls_of_code (fun _ => .tree (.look 0 (.look 1 (.look 2 (.look 3 (.look 4 (.look 5 (.look 6 (.look 7 (.look 8 (.look 9 (.look 10 (.look 11 (.look 12 (.look 13 (.look 14 (.look 15 (.look 16 (.look 17 (.look 18 (.only 19 (.only 20 (.look 21 (.look 22 (.look 23 (.look 24 (.look 25 (.only 26 (.only 27 (.look 28 (.only 29 (.only 30 (.done))))))))))))))))))))))))))))))))) (fn := Tryz.f124) (rs := [.cell 4 111, .tmp 5]) Tryz.func124 rfl rfl (by kernel_rfl) (Nat.le_of_ble_eq_true rfl) ((sh_124_eq a0 a1 K w).mp h)

/-- (cloak/ticket.desk).key -/
def sh_125 (a0 : Value) (a1 : Value) (K : Value → World → Prop) (w : World) : Prop :=
 oM Tryz.prog (Go.Op.box 111 (.tmp 0)) 0 [a0] (fun v2_1 w =>
 oM Tryz.prog (Go.Op.binOp Go.BinOp.neq 3 (.tmp 0) (.const (.int .i64 1)) 3) 4 [a1] (fun v6_2 w =>
 gdM (gd v6_2 true) (oM Tryz.prog (Go.Op.load 111 (.tmp 0)) 111 [v2_1]) (fun v8_3 w =>
 gdM (gd v6_2 true) (pureM a1) (fun v9_4 w =>
 gdM (gd v6_2 true) (oM Tryz.prog (Go.Op.buildSlice 22 1 #[(0, (.tmp 0))]) 22 [v9_4]) (fun v10_5 w =>
 gdM (gd v6_2 true) (callM Tryz.prog 146 #[v8_3, v10_5]) (fun v11_6 w =>
 oM Tryz.prog (Go.Op.pick (.tmp 0) (.tmp 1) (.tmp 2)) 4 [v6_2, v11_6, (.bool false)] (fun v12_7 w =>
 K v12_7 w) w) w) w) w) w) w) w
theorem sh_125_eq (a0 : Value) (a1 : Value) (K : Value → World → Prop) (w : World) : sh_125 a0 a1 K w = code Tryz.prog (fun _ => 2) 13 (Tryz.f125.body.getD .skip) (slotsAt [a0, a1]) (retK Tryz.prog [.tmp 4] K) w := by kernel_rfl
theorem sh_125_ok {a0 a1 : Value} {K : Value → World → Prop} {w : World} (h : sh_125 a0 a1 K w) : callM Tryz.prog 125 #[a0, a1] K w :=
  calls_of_code (fun _ => 2) (fn := Tryz.f125) (rs := [.tmp 4]) Tryz.func125 rfl rfl (by kernel_rfl) (Nat.le_of_ble_eq_true rfl) ((sh_125_eq a0 a1 K w).mp h)

/-- (cloak/ticket.desk).product -/
def sh_126 (a0 : Value) (a1 : Value) (K : Value → World → Prop) (w : World) : Prop :=
 oM Tryz.prog (Go.Op.box 111 (.tmp 0)) 0 [a0] (fun v2_1 w =>
 oM Tryz.prog (Go.Op.fieldAddr 111 (.tmp 0) 0) 0 [v2_1] (fun v8_2 w =>
 oM Tryz.prog (Go.Op.fieldAddr 35 (.tmp 0) 0) 0 [v8_2] (fun v9_3 w =>
 oM Tryz.prog (Go.Op.load 33 (.tmp 0)) 33 [v9_3] (fun v10_4 w =>
 oM Tryz.prog (Go.Op.fieldAddr 111 (.tmp 0) 0) 0 [v2_1] (fun v11_5 w =>
 oM Tryz.prog (Go.Op.fieldAddr 35 (.tmp 0) 1) 0 [v11_5] (fun v12_6 w =>
 oM Tryz.prog (Go.Op.load 22 (.tmp 0)) 22 [v12_6] (fun v13_7 w =>
 callM Tryz.prog 38 #[v10_4, v13_7, a1] (fun v15_8 w =>
 oM Tryz.prog (Go.Op.extract (.tmp 0) 0) 3 [v15_8] (fun v16_9 w =>
 oM Tryz.prog (Go.Op.extract (.tmp 0) 1) 4 [v15_8] (fun v17_10 w =>
 K v16_9 w) w) w) w) w) w) w) w) w) w) w
theorem sh_126_eq (a0 : Value) (a1 : Value) (K : Value → World → Prop) (w : World) : sh_126 a0 a1 K w = code Tryz.prog (fun _ => 2) 19 (Tryz.f126.body.getD .skip) (slotsAt [a0, a1]) (retK Tryz.prog [.tmp 4] K) w := by kernel_rfl
theorem sh_126_ok {a0 a1 : Value} {K : Value → World → Prop} {w : World} (h : sh_126 a0 a1 K w) : callM Tryz.prog 126 #[a0, a1] K w :=
  calls_of_code (fun _ => 2) (fn := Tryz.f126) (rs := [.tmp 4]) Tryz.func126 rfl rfl (by kernel_rfl) (Nat.le_of_ble_eq_true rfl) ((sh_126_eq a0 a1 K w).mp h)

/-- (cloak/ticket.desk).times -/
def sh_127 (a0 : Value) (a1 : Value) (a2 : Value) (K : Value → World → Prop) (w : World) : Prop :=
 oM Tryz.prog (Go.Op.box 111 (.tmp 0)) 0 [a0] (fun v3_1 w =>
 oM Tryz.prog (Go.Op.call (Go.Call.mk (Go.Callee.builtin Go.Builtin.len) #[(.tmp 0)] #[22])) 3 [a2] (fun v10_2 w =>
 loopM [undef, a1, (.int .i64 0)] w (fun J_3 m_4 l_5 u_l_5 w0_l_5 => (fun w => (
 oM Tryz.prog (Go.Op.binOp Go.BinOp.lss 3 (.tmp 0) (.tmp 1) 3) 0 [(l_5.getD 2 undef), v10_2] (fun v12_6 w =>
 condM v12_6
 (oM Tryz.prog (Go.Op.indexAddr 22 (.tmp 0) (.tmp 1)) 0 [a2, (l_5.getD 2 undef)] (fun v13_7 w =>
 oM Tryz.prog (Go.Op.load 3 (.tmp 0)) 3 [v13_7] (fun v14_8 w =>
 oM Tryz.prog (Go.Op.fieldAddr 111 (.tmp 0) 0) 0 [v3_1] (fun v15_9 w =>
 oM Tryz.prog (Go.Op.fieldAddr 35 (.tmp 0) 0) 0 [v15_9] (fun v16_10 w =>
 oM Tryz.prog (Go.Op.load 33 (.tmp 0)) 33 [v16_10] (fun v17_11 w =>
 callM Tryz.prog 168 #[v17_11, (l_5.getD 1 undef), v14_8] (fun v20_12 w =>
 oM Tryz.prog (Go.Op.binOp Go.BinOp.add 3 (.tmp 0) (.tmp 1) 3) 3 [(l_5.getD 2 undef), (.int .i64 1)] (fun v21_13 w =>
 J_3 [v14_8, v20_12, v21_13] w ∧ m_4 [v14_8, v20_12, v21_13] w < m_4 l_5 w0_l_5) w) w) w) w) w) w) w)
 (K (l_5.getD 1 undef) w)) w)) w0_l_5)) w) w
theorem sh_127_eq (a0 : Value) (a1 : Value) (a2 : Value) (K : Value → World → Prop) (w : World) : sh_127 a0 a1 a2 K w = code Tryz.prog (fun _ => 2) 23 (Tryz.f127.body.getD .skip) (slotsAt [a0, a1, a2]) (retK Tryz.prog [.tmp 6] K) w := by kernel_rfl
theorem sh_127_ok {a0 a1 a2 : Value} {K : Value → World → Prop} {w : World} (h : sh_127 a0 a1 a2 K w) : callM Tryz.prog 127 #[a0, a1, a2] K w :=
  calls_of_code (fun _ => 2) (fn := Tryz.f127) (rs := [.tmp 6]) Tryz.func127 rfl rfl (by kernel_rfl) (Nat.le_of_ble_eq_true rfl) ((sh_127_eq a0 a1 a2 K w).mp h)

/-- cloak/proof.ValidSetup -/
def sh_135 (a0 : Value) (K : Value → World → Prop) (w : World) : Prop :=
 oM Tryz.prog (Go.Op.box 35 (.tmp 0)) 0 [a0] (fun v1_1 w =>
 oM Tryz.prog (Go.Op.fieldAddr 35 (.tmp 0) 0) 0 [v1_1] (fun v6_2 w =>
 oM Tryz.prog (Go.Op.load 33 (.tmp 0)) 33 [v6_2] (fun v7_3 w =>
 callM Tryz.prog 138 #[v7_3] (fun v8_4 w =>
 oM Tryz.prog (Go.Op.unOp Go.UnOp.not 4 (.tmp 0)) 4 [v8_4] (fun v9_5 w =>
 gdM (gd v9_5 false) (oM Tryz.prog (Go.Op.fieldAddr 35 (.tmp 0) 1) 0 [v1_1]) (fun v11_6 w =>
 gdM (gd v9_5 false) (oM Tryz.prog (Go.Op.load 22 (.tmp 0)) 22 [v11_6]) (fun v12_7 w =>
 gdM (gd v9_5 false) (oM Tryz.prog (Go.Op.call (Go.Call.mk (Go.Callee.builtin Go.Builtin.len) #[(.tmp 0)] #[22])) 3 [v12_7]) (fun v13_8 w =>
 gdM (gd v9_5 false) (oM Tryz.prog (Go.Op.binOp Go.BinOp.lss 3 (.tmp 0) (.tmp 1) 3) 4 [v13_8, (.int .i64 2)]) (fun v14_9 w =>
 oM Tryz.prog (Go.Op.pick (.tmp 0) (.tmp 1) (.tmp 2)) 4 [v9_5, (.bool true), v14_9] (fun v15_10 w =>
 gdM (gd v15_10 false) (oM Tryz.prog (Go.Op.fieldAddr 35 (.tmp 0) 1) 0 [v1_1]) (fun v17_11 w =>
 gdM (gd v15_10 false) (oM Tryz.prog (Go.Op.load 22 (.tmp 0)) 22 [v17_11]) (fun v18_12 w =>
 gdM (gd v15_10 false) (oM Tryz.prog (Go.Op.call (Go.Call.mk (Go.Callee.builtin Go.Builtin.len) #[(.tmp 0)] #[22])) 3 [v18_12]) (fun v19_13 w =>
 gdM (gd v15_10 false) (oM Tryz.prog (Go.Op.binOp Go.BinOp.gtr 3 (.tmp 0) (.tmp 1) 3) 4 [v19_13, (.int .i64 7)]) (fun v20_14 w =>
 oM Tryz.prog (Go.Op.pick (.tmp 0) (.tmp 1) (.tmp 2)) 4 [v15_10, (.bool true), v20_14] (fun v21_15 w =>
 condM v21_15
 (K (.bool false) w)
 (oM Tryz.prog (Go.Op.makeFunc (Go.Fn.func 175) #[] #[(.tmp 0)]) 122 [v1_1] (fun v22_16 w =>
 oM Tryz.prog (Go.Op.fieldAddr 35 (.tmp 0) 1) 0 [v1_1] (fun v23_17 w =>
 oM Tryz.prog (Go.Op.load 22 (.tmp 0)) 22 [v23_17] (fun v24_18 w =>
 oM Tryz.prog (Go.Op.call (Go.Call.mk (Go.Callee.builtin Go.Builtin.len) #[(.tmp 0)] #[22])) 3 [v24_18] (fun v25_19 w =>
 loopM [undef, (.bool false), (.int .i64 0)] w (fun J_20 m_21 l_22 u_l_22 w0_l_22 => (fun w => (
 oM Tryz.prog (Go.Op.binOp Go.BinOp.lss 3 (.tmp 0) (.tmp 1) 3) 0 [(l_22.getD 2 undef), v25_19] (fun v27_23 w =>
 condM v27_23
 (oM Tryz.prog (Go.Op.indexAddr 22 (.tmp 0) (.tmp 1)) 0 [v24_18, (l_22.getD 2 undef)] (fun v28_24 w =>
 oM Tryz.prog (Go.Op.load 3 (.tmp 0)) 3 [v28_24] (fun v29_25 w =>
 oM Tryz.prog (Go.Op.call (Go.Call.mk (Go.Callee.value (.tmp 0)) #[(.tmp 1)] #[3])) 4 [v22_16, v29_25] (fun v32_26 w =>
 oM Tryz.prog (Go.Op.unOp Go.UnOp.not 4 (.tmp 0)) 4 [v32_26] (fun v33_27 w =>
 condM v33_27
 (K (.bool false) w)
 (oM Tryz.prog (Go.Op.binOp Go.BinOp.add 3 (.tmp 0) (.tmp 1) 3) 3 [(l_22.getD 2 undef), (.int .i64 1)] (fun v34_28 w =>
 J_20 [v29_25, (l_22.getD 1 undef), v34_28] w ∧ m_21 [v29_25, (l_22.getD 1 undef), v34_28] w < m_21 l_22 w0_l_22) w)) w) w) w) w)
 (oM Tryz.prog (Go.Op.fieldAddr 35 (.tmp 0) 2) 0 [v1_1] (fun v36_29 w =>
 oM Tryz.prog (Go.Op.load 3 (.tmp 0)) 3 [v36_29] (fun v37_30 w =>
 oM Tryz.prog (Go.Op.call (Go.Call.mk (Go.Callee.value (.tmp 0)) #[(.tmp 1)] #[3])) 4 [v22_16, v37_30] (fun v38_31 w =>
 K v38_31 w) w) w) w)) w)) w0_l_22)) w) w) w) w)) w) w) w) w) w) w) w) w) w) w) w) w) w) w) w
theorem sh_135_eq (a0 : Value) (K : Value → World → Prop) (w : World) : sh_135 a0 K w = code Tryz.prog (fun _ => 0) 39 (Tryz.f135.body.getD .skip) (slotsAt [a0]) (retK Tryz.prog [.tmp 2] K) w := by kernel_rfl
theorem sh_135_ok {a0 : Value} {K : Value → World → Prop} {w : World} (h : sh_135 a0 K w) : callM Tryz.prog 135 #[a0] K w :=
  calls_of_code (fun _ => 0) (fn := Tryz.f135) (rs := [.tmp 2]) Tryz.func135 rfl rfl (by kernel_rfl) (Nat.le_of_ble_eq_true rfl) ((sh_135_eq a0 K w).mp h)

/-- (cloak/ticket.desk).nums$1 -/
def sh_140 (a0 : Value) (a1 : Value) (a2 : Value) (K : Value → World → Prop) (w : World) : Prop :=
 oM Tryz.prog (Go.Op.load 3 (.tmp 0)) 3 [a1] (fun v6_1 w =>
 oM Tryz.prog (Go.Op.binOp Go.BinOp.lss 3 (.tmp 0) (.tmp 1) 3) 4 [a0, v6_1] (fun v7_2 w =>
 gdM (gd v7_2 false) (pureM a0) (fun v9_3 w =>
 gdM (gd v7_2 false) (oM Tryz.prog (Go.Op.fieldAddr 111 (.tmp 0) 0) 0 [a2]) (fun v10_4 w =>
 gdM (gd v7_2 false) (oM Tryz.prog (Go.Op.fieldAddr 35 (.tmp 0) 0) 0 [v10_4]) (fun v11_5 w =>
 gdM (gd v7_2 false) (oM Tryz.prog (Go.Op.fieldAddr 33 (.tmp 0) 1) 0 [v11_5]) (fun v12_6 w =>
 gdM (gd v7_2 false) (oM Tryz.prog (Go.Op.load 3 (.tmp 0)) 3 [v12_6]) (fun v13_7 w =>
 gdM (gd v7_2 false) (oM Tryz.prog (Go.Op.binOp Go.BinOp.geq 3 (.tmp 0) (.tmp 1) 3) 4 [v9_3, v13_7]) (fun v14_8 w =>
 oM Tryz.prog (Go.Op.pick (.tmp 0) (.tmp 1) (.tmp 2)) 4 [v7_2, (.bool true), v14_8] (fun v15_9 w =>
 K v15_9 w) w) w) w) w) w) w) w) w) w
theorem sh_140_eq (a0 : Value) (a1 : Value) (a2 : Value) (K : Value → World → Prop) (w : World) : sh_140 a0 a1 a2 K w = code Tryz.prog (fun _ => 0) 16 (Tryz.f140.body.getD .skip) (slotsAt [a0, a1, a2]) (retK Tryz.prog [.tmp 4] K) w := by kernel_rfl
theorem sh_140_ok {a0 a1 a2 : Value} {K : Value → World → Prop} {w : World} (h : sh_140 a0 a1 a2 K w) : callM Tryz.prog 140 #[a0, a1, a2] K w :=
  calls_of_code (fun _ => 0) (fn := Tryz.f140) (rs := [.tmp 4]) Tryz.func140 rfl rfl (by kernel_rfl) (Nat.le_of_ble_eq_true rfl) ((sh_140_eq a0 a1 a2 K w).mp h)

/-- slices.Insert[[]int,int] -/
def sh_141 (a0 : Value) (a1 : Value) (a2 : Value) (K : Value → World → Prop) (w : World) : Prop :=
 oM Tryz.prog (Go.Op.slice 22 (.tmp 0) (some (.tmp 1)) none none) 22 [a0, a1] (fun v12_1 w =>
 oM Tryz.prog (Go.Op.call (Go.Call.mk (Go.Callee.builtin Go.Builtin.len) #[(.tmp 0)] #[22])) 3 [a2] (fun v14_2 w =>
 oM Tryz.prog (Go.Op.binOp Go.BinOp.eql 3 (.tmp 0) (.const (.int .i64 0)) 3) 4 [v14_2] (fun v16_3 w =>
 condM v16_3
 (K a0 w)
 (oM Tryz.prog (Go.Op.call (Go.Call.mk (Go.Callee.builtin Go.Builtin.len) #[(.tmp 0)] #[22])) 3 [a0] (fun v19_4 w =>
 oM Tryz.prog (Go.Op.binOp Go.BinOp.eql 3 (.tmp 0) (.tmp 1) 3) 4 [a1, v19_4] (fun v22_5 w =>
 condM v22_5
 (oM Tryz.prog (Go.Op.call (Go.Call.mk (Go.Callee.builtin Go.Builtin.append) #[(.tmp 0), (.tmp 1)] #[22, 22])) 22 [a0, a2] (fun v25_6 w =>
 K v25_6 w) w)
 (oM Tryz.prog (Go.Op.binOp Go.BinOp.add 3 (.tmp 0) (.tmp 1) 3) 3 [v19_4, v14_2] (fun v28_7 w =>
 oM Tryz.prog (Go.Op.call (Go.Call.mk (Go.Callee.builtin Go.Builtin.cap) #[(.tmp 0)] #[22])) 3 [a0] (fun v30_8 w =>
 oM Tryz.prog (Go.Op.binOp Go.BinOp.gtr 3 (.tmp 0) (.tmp 1) 3) 4 [v28_7, v30_8] (fun v31_9 w =>
 condM v31_9
 (oM Tryz.prog (Go.Op.slice 22 (.tmp 0) none (some (.tmp 1)) none) 22 [a0, a1] (fun v34_10 w =>
 oM Tryz.prog (Go.Op.binOp Go.BinOp.add 3 (.tmp 0) (.tmp 1) 3) 3 [v19_4, v14_2] (fun v37_11 w =>
 oM Tryz.prog (Go.Op.binOp Go.BinOp.sub 3 (.tmp 0) (.tmp 1) 3) 3 [v37_11, a1] (fun v39_12 w =>
 oM Tryz.prog (Go.Op.call (Go.Call.mk (Go.Callee.builtin Go.Builtin.append) #[(.tmp 0), (.tmp 1)] #[22, 3])) 22 [v34_10, v39_12] (fun v40_13 w =>
 oM Tryz.prog (Go.Op.slice 22 (.tmp 0) (some (.tmp 1)) none none) 22 [v40_13, a1] (fun v43_14 w =>
 oM Tryz.prog (Go.Op.call (Go.Call.mk (Go.Callee.builtin Go.Builtin.copy) #[(.tmp 0), (.tmp 1)] #[22, 22])) 3 [v43_14, a2] (fun v45_15 w =>
 heldM w (fun C_16 w => (pureH v40_13 C_16 (fun v46_17 =>
 pureH a1 C_16 (fun v47_18 =>
 pureH v14_2 C_16 (fun v48_19 =>
 oH Tryz.prog (Go.Op.binOp Go.BinOp.add 3 (.tmp 0) (.tmp 1) 3) 3 [v47_18, v48_19] C_16 (fun v49_20 =>
 oH Tryz.prog (Go.Op.slice 22 (.tmp 0) (some (.tmp 1)) none none) 22 [v46_17, v49_20] C_16 (fun v50_21 =>
 pureH a0 C_16 (fun v51_22 =>
 pureH a1 C_16 (fun v52_23 =>
 oH Tryz.prog (Go.Op.slice 22 (.tmp 0) (some (.tmp 1)) none none) 22 [v51_22, v52_23] C_16 (fun v53_24 =>
 oM Tryz.prog (Go.Op.call (Go.Call.mk (Go.Callee.builtin Go.Builtin.copy) #[(.tmp 0), (.tmp 1)] #[22, 22])) 3 [v50_21, v53_24] (fun v54_25 w => C_16 w ∧ (
 K v40_13 w)) w))))))))))) w) w) w) w) w) w)
 (oM Tryz.prog (Go.Op.binOp Go.BinOp.add 3 (.tmp 0) (.tmp 1) 3) 3 [v19_4, v14_2] (fun v59_26 w =>
 oM Tryz.prog (Go.Op.slice 22 (.tmp 0) none (some (.tmp 1)) none) 22 [a0, v59_26] (fun v60_27 w =>
 oM Tryz.prog (Go.Op.binOp Go.BinOp.add 3 (.tmp 0) (.tmp 1) 3) 3 [a1, v14_2] (fun v65_28 w =>
 oM Tryz.prog (Go.Op.slice 22 (.tmp 0) (some (.tmp 1)) none none) 22 [v60_27, v65_28] (fun v66_29 w =>
 extM Tryz.prog 182 #[a2, v66_29] (fun v67_30 w =>
 oM Tryz.prog (Go.Op.unOp Go.UnOp.not 4 (.tmp 0)) 4 [v67_30] (fun v68_31 w =>
 condM v68_31
 (heldM w (fun C_32 w => (pureH v60_27 C_32 (fun v69_33 =>
 pureH a1 C_32 (fun v70_34 =>
 pureH v14_2 C_32 (fun v71_35 =>
 oH Tryz.prog (Go.Op.binOp Go.BinOp.add 3 (.tmp 0) (.tmp 1) 3) 3 [v70_34, v71_35] C_32 (fun v72_36 =>
 oH Tryz.prog (Go.Op.slice 22 (.tmp 0) (some (.tmp 1)) none none) 22 [v69_33, v72_36] C_32 (fun v73_37 =>
 pureH v60_27 C_32 (fun v74_38 =>
 pureH a1 C_32 (fun v75_39 =>
 oH Tryz.prog (Go.Op.slice 22 (.tmp 0) (some (.tmp 1)) none none) 22 [v74_38, v75_39] C_32 (fun v76_40 =>
 oM Tryz.prog (Go.Op.call (Go.Call.mk (Go.Callee.builtin Go.Builtin.copy) #[(.tmp 0), (.tmp 1)] #[22, 22])) 3 [v73_37, v76_40] (fun v77_41 w => C_32 w ∧ (
 oM Tryz.prog (Go.Op.slice 22 (.tmp 0) (some (.tmp 1)) none none) 22 [v60_27, a1] (fun v80_42 w =>
 oM Tryz.prog (Go.Op.call (Go.Call.mk (Go.Callee.builtin Go.Builtin.copy) #[(.tmp 0), (.tmp 1)] #[22, 22])) 3 [v80_42, a2] (fun v82_43 w =>
 K v60_27 w) w) w)) w)))))))))))
 (oM Tryz.prog (Go.Op.slice 22 (.tmp 0) (some (.tmp 1)) none none) 22 [v60_27, v19_4] (fun v86_44 w =>
 oM Tryz.prog (Go.Op.call (Go.Call.mk (Go.Callee.builtin Go.Builtin.copy) #[(.tmp 0), (.tmp 1)] #[22, 22])) 3 [v86_44, a2] (fun v88_45 w =>
 oM Tryz.prog (Go.Op.slice 22 (.tmp 0) (some (.tmp 1)) none none) 22 [v60_27, a1] (fun v91_46 w =>
 callM Tryz.prog 183 #[v91_46, v14_2] (fun v93_47 w =>
 K v60_27 w) w) w) w) w)) w) w) w) w) w) w)) w) w) w)) w) w)) w) w) w
theorem sh_141_eq (a0 : Value) (a1 : Value) (a2 : Value) (K : Value → World → Prop) (w : World) : sh_141 a0 a1 a2 K w = code Tryz.prog (fun _ => 2) 95 (Tryz.f141.body.getD .skip) (slotsAt [a0, a1, a2]) (retK Tryz.prog [.tmp 6] K) w := by kernel_rfl
theorem sh_141_ok {a0 a1 a2 : Value} {K : Value → World → Prop} {w : World} (h : sh_141 a0 a1 a2 K w) : callM Tryz.prog 141 #[a0, a1, a2] K w :=
  calls_of_code (fun _ => 2) (fn := Tryz.f141) (rs := [.tmp 6]) Tryz.func141 rfl rfl (by kernel_rfl) (Nat.le_of_ble_eq_true rfl) ((sh_141_eq a0 a1 a2 K w).mp h)

/-- slices.Clone[[]int,int] -/
def sh_142 (a0 : Value) (K : Value → World → Prop) (w : World) : Prop :=
 oM Tryz.prog (Go.Op.binOp Go.BinOp.eql 22 (.tmp 0) (.const (.slice none 0 0)) 22) 4 [a0] (fun v4_1 w =>
 condM v4_1
 (K (.slice none 0 0) w)
 (oM Tryz.prog (Go.Op.buildSlice 22 0 #[]) 22 [] (fun v5_2 w =>
 oM Tryz.prog (Go.Op.call (Go.Call.mk (Go.Callee.builtin Go.Builtin.append) #[(.tmp 0), (.tmp 1)] #[22, 22])) 22 [v5_2, a0] (fun v7_3 w =>
 K v7_3 w) w) w)) w
theorem sh_142_eq (a0 : Value) (K : Value → World → Prop) (w : World) : sh_142 a0 K w = code Tryz.prog (fun _ => 2) 8 (Tryz.f142.body.getD .skip) (slotsAt [a0]) (retK Tryz.prog [.tmp 2] K) w := by kernel_rfl
theorem sh_142_ok {a0 : Value} {K : Value → World → Prop} {w : World} (h : sh_142 a0 K w) : callM Tryz.prog 142 #[a0] K w :=
  calls_of_code (fun _ => 2) (fn := Tryz.f142) (rs := [.tmp 2]) Tryz.func142 rfl rfl (by kernel_rfl) (Nat.le_of_ble_eq_true rfl) ((sh_142_eq a0 K w).mp h)

/-- (cloak/ticket.desk).elements -/
def sh_146 (a0 : Value) (a1 : Value) (K : Value → World → Prop) (w : World) : Prop :=
 oM Tryz.prog (Go.Op.box 111 (.tmp 0)) 0 [a0] (fun v2_1 w =>
 oM Tryz.prog (Go.Op.makeFunc (Go.Fn.func 185) #[] #[(.tmp 0)]) 122 [v2_1] (fun v6_2 w =>
 callM Tryz.prog 113 #[a1, v6_2] (fun v7_3 w =>
 oM Tryz.prog (Go.Op.unOp Go.UnOp.not 4 (.tmp 0)) 4 [v7_3] (fun v8_4 w =>
 K v8_4 w) w) w) w) w
theorem sh_146_eq (a0 : Value) (a1 : Value) (K : Value → World → Prop) (w : World) : sh_146 a0 a1 K w = code Tryz.prog (fun _ => 0) 9 (Tryz.f146.body.getD .skip) (slotsAt [a0, a1]) (retK Tryz.prog [.tmp 4] K) w := by kernel_rfl
theorem sh_146_ok {a0 a1 : Value} {K : Value → World → Prop} {w : World} (h : sh_146 a0 a1 K w) : callM Tryz.prog 146 #[a0, a1] K w :=
  calls_of_code (fun _ => 0) (fn := Tryz.f146) (rs := [.tmp 4]) Tryz.func146 rfl rfl (by kernel_rfl) (Nat.le_of_ble_eq_true rfl) ((sh_146_eq a0 a1 K w).mp h)

/-- slices.IndexFunc[[]int,int] -/
def sh_160 (a0 : Value) (a1 : Value) (K : Value → World → Prop) (w : World) : Prop :=
 oM Tryz.prog (Go.Op.call (Go.Call.mk (Go.Callee.builtin Go.Builtin.len) #[(.tmp 0)] #[22])) 3 [a0] (fun v7_1 w =>
 loopM [undef, (.int .i64 0), (.int .i64 0)] w (fun J_2 m_3 l_4 u_l_4 w0_l_4 => (fun w => (
 oM Tryz.prog (Go.Op.binOp Go.BinOp.lss 3 (.tmp 0) (.tmp 1) 3) 0 [(l_4.getD 2 undef), v7_1] (fun v9_5 w =>
 condM v9_5
 (oM Tryz.prog (Go.Op.indexAddr 22 (.tmp 0) (.tmp 1)) 0 [a0, (l_4.getD 2 undef)] (fun v14_6 w =>
 oM Tryz.prog (Go.Op.load 3 (.tmp 0)) 3 [v14_6] (fun v15_7 w =>
 oM Tryz.prog (Go.Op.call (Go.Call.mk (Go.Callee.value (.tmp 0)) #[(.tmp 1)] #[3])) 4 [a1, v15_7] (fun v16_8 w =>
 condM v16_8
 (K (l_4.getD 2 undef) w)
 (oM Tryz.prog (Go.Op.binOp Go.BinOp.add 3 (.tmp 0) (.tmp 1) 3) 3 [(l_4.getD 2 undef), (.int .i64 1)] (fun v18_9 w =>
 J_2 [(l_4.getD 2 undef), (l_4.getD 1 undef), v18_9] w ∧ m_3 [(l_4.getD 2 undef), (l_4.getD 1 undef), v18_9] w < m_3 l_4 w0_l_4) w)) w) w) w)
 (K (.int .i64 (-1)) w)) w)) w0_l_4)) w
theorem sh_160_eq (a0 : Value) (a1 : Value) (K : Value → World → Prop) (w : World) : sh_160 a0 a1 K w = code Tryz.prog (fun _ => 0) 19 (Tryz.f160.body.getD .skip) (slotsAt [a0, a1]) (retK Tryz.prog [.tmp 4] K) w := by kernel_rfl
theorem sh_160_ok {a0 a1 : Value} {K : Value → World → Prop} {w : World} (h : sh_160 a0 a1 K w) : callM Tryz.prog 160 #[a0, a1] K w :=
  calls_of_code (fun _ => 0) (fn := Tryz.f160) (rs := [.tmp 4]) Tryz.func160 rfl rfl (by kernel_rfl) (Nat.le_of_ble_eq_true rfl) ((sh_160_eq a0 a1 K w).mp h)

/-- cloak/proof.ValidSetup$1 -/
def sh_175 (a0 : Value) (a1 : Value) (K : Value → World → Prop) (w : World) : Prop :=
 oM Tryz.prog (Go.Op.binOp Go.BinOp.neq 3 (.tmp 0) (.const (.int .i64 1)) 3) 4 [a0] (fun v5_1 w =>
 gdM (gd v5_1 true) (oM Tryz.prog (Go.Op.fieldAddr 35 (.tmp 0) 0) 0 [a1]) (fun v7_2 w =>
 gdM (gd v5_1 true) (oM Tryz.prog (Go.Op.load 33 (.tmp 0)) 33 [v7_2]) (fun v8_3 w =>
 gdM (gd v5_1 true) (pureM a0) (fun v9_4 w =>
 gdM (gd v5_1 true) (callM Tryz.prog 176 #[v8_3, v9_4]) (fun v10_5 w =>
 oM Tryz.prog (Go.Op.pick (.tmp 0) (.tmp 1) (.tmp 2)) 4 [v5_1, v10_5, (.bool false)] (fun v11_6 w =>
 K v11_6 w) w) w) w) w) w) w
theorem sh_175_eq (a0 : Value) (a1 : Value) (K : Value → World → Prop) (w : World) : sh_175 a0 a1 K w = code Tryz.prog (fun _ => 0) 12 (Tryz.f175.body.getD .skip) (slotsAt [a0, a1]) (retK Tryz.prog [.tmp 3] K) w := by kernel_rfl
theorem sh_175_ok {a0 a1 : Value} {K : Value → World → Prop} {w : World} (h : sh_175 a0 a1 K w) : callM Tryz.prog 175 #[a0, a1] K w :=
  calls_of_code (fun _ => 0) (fn := Tryz.f175) (rs := [.tmp 3]) Tryz.func175 rfl rfl (by kernel_rfl) (Nat.le_of_ble_eq_true rfl) ((sh_175_eq a0 a1 K w).mp h)

/-- (cloak/ticket.desk).elements$1 -/
def sh_185 (a0 : Value) (a1 : Value) (K : Value → World → Prop) (w : World) : Prop :=
 oM Tryz.prog (Go.Op.fieldAddr 111 (.tmp 0) 0) 0 [a1] (fun v4_1 w =>
 oM Tryz.prog (Go.Op.fieldAddr 35 (.tmp 0) 0) 0 [v4_1] (fun v5_2 w =>
 oM Tryz.prog (Go.Op.load 33 (.tmp 0)) 33 [v5_2] (fun v6_3 w =>
 callM Tryz.prog 176 #[v6_3, a0] (fun v8_4 w =>
 oM Tryz.prog (Go.Op.unOp Go.UnOp.not 4 (.tmp 0)) 4 [v8_4] (fun v9_5 w =>
 K v9_5 w) w) w) w) w) w
theorem sh_185_eq (a0 : Value) (a1 : Value) (K : Value → World → Prop) (w : World) : sh_185 a0 a1 K w = code Tryz.prog (fun _ => 0) 10 (Tryz.f185.body.getD .skip) (slotsAt [a0, a1]) (retK Tryz.prog [.tmp 3] K) w := by kernel_rfl
theorem sh_185_ok {a0 a1 : Value} {K : Value → World → Prop} {w : World} (h : sh_185 a0 a1 K w) : callM Tryz.prog 185 #[a0, a1] K w :=
  calls_of_code (fun _ => 0) (fn := Tryz.f185) (rs := [.tmp 3]) Tryz.func185 rfl rfl (by kernel_rfl) (Nat.le_of_ble_eq_true rfl) ((sh_185_eq a0 a1 K w).mp h)

/-- cloak/cloaklaw04.sane -/
def sh_22 (K : Value → World → Prop) (w : World) : Prop :=
 oM Tryz.prog (Go.Op.build 33 #[(0, (.tmp 0)), (1, (.tmp 1)), (2, (.tmp 2))]) 33 [(.int .i64 23), (.int .i64 11), (.int .i64 4)] (fun v18_1 w =>
 oM Tryz.prog (Go.Op.buildSlice 22 3 #[(0, (.tmp 0)), (1, (.tmp 1)), (2, (.tmp 2))]) 22 [(.int .i64 4), (.int .i64 16), (.int .i64 18)] (fun v19_2 w =>
 oM Tryz.prog (Go.Op.build 35 #[(0, (.tmp 0)), (1, (.tmp 1)), (2, (.tmp 2))]) 35 [v18_1, v19_2, (.int .i64 3)] (fun v20_3 w =>
 oM Tryz.prog (Go.Op.alloc 35) 0 [] (fun v1_4 w =>
 oM Tryz.prog (Go.Op.store 35 (.tmp 0) (.tmp 1)) 0 [v1_4, v20_3] (fun _ w =>
 oM Tryz.prog (Go.Op.buildSlice 22 2 #[(0, (.tmp 0)), (1, (.tmp 1))]) 22 [(.int .i64 5), (.int .i64 7)] (fun v21_5 w =>
 oM Tryz.prog (Go.Op.buildSlice 22 3 #[(0, (.tmp 0)), (1, (.tmp 1)), (2, (.tmp 2))]) 22 [(.int .i64 1), (.int .i64 2), (.int .i64 3)] (fun v22_6 w =>
 oM Tryz.prog (Go.Op.build 28 #[(0, (.tmp 0)), (1, (.tmp 1)), (3, (.tmp 2))]) 28 [(.int .i64 4), (.int .i64 1), v22_6] (fun v23_7 w =>
 oM Tryz.prog (Go.Op.alloc 28) 0 [] (fun v3_8 w =>
 oM Tryz.prog (Go.Op.store 28 (.tmp 0) (.tmp 1)) 0 [v3_8, v23_7] (fun _ w =>
 oM Tryz.prog (Go.Op.load 35 (.tmp 0)) 35 [v1_4] (fun v25_9 w =>
 callM Tryz.prog 14 #[v25_9, (.int .i64 3), v21_5, (.int .i64 2)] (fun v27_10 w =>
 oM Tryz.prog (Go.Op.extract (.tmp 0) 0) 39 [v27_10] (fun v28_11 w =>
 oM Tryz.prog (Go.Op.extract (.tmp 0) 1) 50 [v27_10] (fun v29_12 w =>
 oM Tryz.prog (Go.Op.alloc 39) 0 [] (fun v4_13 w =>
 oM Tryz.prog (Go.Op.store 39 (.tmp 0) (.tmp 1)) 0 [v4_13, v28_11] (fun _ w =>
 oM Tryz.prog (Go.Op.load 35 (.tmp 0)) 35 [v1_4] (fun v31_14 w =>
 oM Tryz.prog (Go.Op.load 28 (.tmp 0)) 28 [v3_8] (fun v33_15 w =>
 callM Tryz.prog 13 #[v31_14, v21_5, v33_15, (.int .i64 2)] (fun v34_16 w =>
 oM Tryz.prog (Go.Op.extract (.tmp 0) 0) 47 [v34_16] (fun v35_17 w =>
 oM Tryz.prog (Go.Op.extract (.tmp 0) 1) 4 [v34_16] (fun v36_18 w =>
 oM Tryz.prog (Go.Op.alloc 47) 0 [] (fun v6_19 w =>
 oM Tryz.prog (Go.Op.store 47 (.tmp 0) (.tmp 1)) 0 [v6_19, v35_17] (fun _ w =>
 oM Tryz.prog (Go.Op.load 35 (.tmp 0)) 35 [v1_4] (fun v38_20 w =>
 oM Tryz.prog (Go.Op.load 28 (.tmp 0)) 28 [v3_8] (fun v40_21 w =>
 callM Tryz.prog 13 #[v38_20, v21_5, v40_21, (.int .i64 5)] (fun v41_22 w =>
 oM Tryz.prog (Go.Op.extract (.tmp 0) 0) 47 [v41_22] (fun v42_23 w =>
 oM Tryz.prog (Go.Op.extract (.tmp 0) 1) 4 [v41_22] (fun v43_24 w =>
 oM Tryz.prog (Go.Op.alloc 47) 0 [] (fun v8_25 w =>
 oM Tryz.prog (Go.Op.store 47 (.tmp 0) (.tmp 1)) 0 [v8_25, v42_23] (fun _ w =>
 oM Tryz.prog (Go.Op.build 43 #[(0, (.tmp 0)), (1, (.tmp 1)), (2, (.tmp 2)), (3, (.tmp 3)), (4, (.tmp 4))]) 43 [(.int .i64 8), (.int .i64 18), (.int .i64 9), (.int .i64 16), (.int .i64 13)] (fun v44_26 w =>
 oM Tryz.prog (Go.Op.alloc 43) 0 [] (fun v10_27 w =>
 oM Tryz.prog (Go.Op.store 43 (.tmp 0) (.tmp 1)) 0 [v10_27, v44_26] (fun _ w =>
 oM Tryz.prog (Go.Op.load 35 (.tmp 0)) 35 [v1_4] (fun v46_28 w =>
 oM Tryz.prog (Go.Op.load 43 (.tmp 0)) 43 [v10_27] (fun v47_29 w =>
 oM Tryz.prog (Go.Op.load 47 (.tmp 0)) 47 [v6_19] (fun v48_30 w =>
 oM Tryz.prog (Go.Op.load 47 (.tmp 0)) 47 [v8_25] (fun v49_31 w =>
 callM Tryz.prog 48 #[v46_28, v47_29, v48_30, v49_31] (fun v50_32 w =>
 oM Tryz.prog (Go.Op.extract (.tmp 0) 0) 22 [v50_32] (fun v51_33 w =>
 oM Tryz.prog (Go.Op.extract (.tmp 0) 1) 4 [v50_32] (fun v52_34 w =>
 oM Tryz.prog (Go.Op.load 35 (.tmp 0)) 35 [v1_4] (fun v54_35 w =>
 oM Tryz.prog (Go.Op.load 43 (.tmp 0)) 43 [v10_27] (fun v55_36 w =>
 oM Tryz.prog (Go.Op.load 47 (.tmp 0)) 47 [v6_19] (fun v56_37 w =>
 oM Tryz.prog (Go.Op.load 47 (.tmp 0)) 47 [v6_19] (fun v57_38 w =>
 callM Tryz.prog 48 #[v54_35, v55_36, v56_37, v57_38] (fun v58_39 w =>
 oM Tryz.prog (Go.Op.extract (.tmp 0) 0) 22 [v58_39] (fun v59_40 w =>
 oM Tryz.prog (Go.Op.extract (.tmp 0) 1) 4 [v58_39] (fun v60_41 w =>
 oM Tryz.prog (Go.Op.fieldAddr 47 (.tmp 0) 1) 0 [v6_19] (fun v61_42 w =>
 oM Tryz.prog (Go.Op.load 22 (.tmp 0)) 22 [v61_42] (fun v62_43 w =>
 oM Tryz.prog (Go.Op.buildSlice 22 3 #[(0, (.tmp 0)), (1, (.tmp 1)), (2, (.tmp 2))]) 22 [(.int .i64 9), (.int .i64 9), (.int .i64 4)] (fun v63_44 w =>
 callM Tryz.prog 59 #[v62_43, v63_44] (fun v64_45 w =>
 oM Tryz.prog (Go.Op.unOp Go.UnOp.not 4 (.tmp 0)) 4 [v64_45] (fun v65_46 w =>
 gdM (gd v65_46 false) (oM Tryz.prog (Go.Op.fieldAddr 47 (.tmp 0) 1) 0 [v8_25]) (fun v67_47 w =>
 gdM (gd v65_46 false) (oM Tryz.prog (Go.Op.load 22 (.tmp 0)) 22 [v67_47]) (fun v68_48 w =>
 gdM (gd v65_46 false) (oM Tryz.prog (Go.Op.buildSlice 22 3 #[(0, (.tmp 0)), (1, (.tmp 1)), (2, (.tmp 2))]) 22 [(.int .i64 10), (.int .i64 3), (.int .i64 0)]) (fun v69_49 w =>
 gdM (gd v65_46 false) (callM Tryz.prog 59 #[v68_48, v69_49]) (fun v70_50 w =>
 gdM (gd v65_46 false) (oM Tryz.prog (Go.Op.unOp Go.UnOp.not 4 (.tmp 0)) 4 [v70_50]) (fun v71_51 w =>
 oM Tryz.prog (Go.Op.pick (.tmp 0) (.tmp 1) (.tmp 2)) 4 [v65_46, (.bool true), v71_51] (fun v72_52 w =>
 gdM (gd v72_52 false) (pureM v36_18) (fun v74_53 w =>
 gdM (gd v72_52 false) (oM Tryz.prog (Go.Op.unOp Go.UnOp.not 4 (.tmp 0)) 4 [v74_53]) (fun v75_54 w =>
 oM Tryz.prog (Go.Op.pick (.tmp 0) (.tmp 1) (.tmp 2)) 4 [v72_52, (.bool true), v75_54] (fun v76_55 w =>
 gdM (gd v76_55 false) (pureM v43_24) (fun v78_56 w =>
 gdM (gd v76_55 false) (oM Tryz.prog (Go.Op.unOp Go.UnOp.not 4 (.tmp 0)) 4 [v78_56]) (fun v79_57 w =>
 oM Tryz.prog (Go.Op.pick (.tmp 0) (.tmp 1) (.tmp 2)) 4 [v76_55, (.bool true), v79_57] (fun v80_58 w =>
 gdM (gd v80_58 false) (pureM v51_33) (fun v82_59 w =>
 gdM (gd v80_58 false) (pureM v21_5) (fun v83_60 w =>
 gdM (gd v80_58 false) (callM Tryz.prog 59 #[v82_59, v83_60]) (fun v84_61 w =>
 gdM (gd v80_58 false) (oM Tryz.prog (Go.Op.unOp Go.UnOp.not 4 (.tmp 0)) 4 [v84_61]) (fun v85_62 w =>
 oM Tryz.prog (Go.Op.pick (.tmp 0) (.tmp 1) (.tmp 2)) 4 [v80_58, (.bool true), v85_62] (fun v86_63 w =>
 gdM (gd v86_63 false) (pureM v52_34) (fun v88_64 w =>
 gdM (gd v86_63 false) (oM Tryz.prog (Go.Op.unOp Go.UnOp.not 4 (.tmp 0)) 4 [v88_64]) (fun v89_65 w =>
 oM Tryz.prog (Go.Op.pick (.tmp 0) (.tmp 1) (.tmp 2)) 4 [v86_63, (.bool true), v89_65] (fun v90_66 w =>
 gdM (gd v90_66 false) (pureM v60_41) (fun v92_67 w =>
 oM Tryz.prog (Go.Op.pick (.tmp 0) (.tmp 1) (.tmp 2)) 4 [v90_66, (.bool true), v92_67] (fun v93_68 w =>
 condM v93_68
 (K (.bool false) w)
 (oM Tryz.prog (Go.Op.fieldAddr 47 (.tmp 0) 1) 0 [v6_19] (fun v94_69 w =>
 oM Tryz.prog (Go.Op.load 22 (.tmp 0)) 22 [v94_69] (fun v95_70 w =>
 oM Tryz.prog (Go.Op.build 47 #[(0, (.tmp 0)), (1, (.tmp 1))]) 47 [(.int .i64 3), v95_70] (fun v96_71 w =>
 oM Tryz.prog (Go.Op.alloc 47) 0 [] (fun v15_72 w =>
 oM Tryz.prog (Go.Op.store 47 (.tmp 0) (.tmp 1)) 0 [v15_72, v96_71] (fun _ w =>
 oM Tryz.prog (Go.Op.load 35 (.tmp 0)) 35 [v1_4] (fun v97_73 w =>
 callM Tryz.prog 27 #[v97_73, v21_5] (fun v99_74 w =>
 oM Tryz.prog (Go.Op.binOp Go.BinOp.eql 3 (.tmp 0) (.const (.int .i64 6)) 3) 4 [v99_74] (fun v100_75 w =>
 gdM (gd v100_75 true) (oM Tryz.prog (Go.Op.load 35 (.tmp 0)) 35 [v1_4]) (fun v102_76 w =>
 gdM (gd v100_75 true) (pureM v21_5) (fun v103_77 w =>
 gdM (gd v100_75 true) (callM Tryz.prog 29 #[v102_76, v103_77]) (fun v104_78 w =>
 oM Tryz.prog (Go.Op.pick (.tmp 0) (.tmp 1) (.tmp 2)) 4 [v100_75, v104_78, (.bool false)] (fun v105_79 w =>
 gdM (gd v105_79 true) (oM Tryz.prog (Go.Op.load 35 (.tmp 0)) 35 [v1_4]) (fun v107_80 w =>
 gdM (gd v105_79 true) (oM Tryz.prog (Go.Op.buildSlice 22 2 #[(0, (.tmp 0)), (1, (.tmp 1))]) 22 [(.int .i64 5), (.int .i64 0)]) (fun v108_81 w =>
 gdM (gd v105_79 true) (callM Tryz.prog 29 #[v107_80, v108_81]) (fun v109_82 w =>
 gdM (gd v105_79 true) (oM Tryz.prog (Go.Op.unOp Go.UnOp.not 4 (.tmp 0)) 4 [v109_82]) (fun v110_83 w =>
 oM Tryz.prog (Go.Op.pick (.tmp 0) (.tmp 1) (.tmp 2)) 4 [v105_79, v110_83, (.bool false)] (fun v111_84 w =>
 gdM (gd v111_84 true) (oM Tryz.prog (Go.Op.load 35 (.tmp 0)) 35 [v1_4]) (fun v113_85 w =>
 gdM (gd v111_84 true) (callM Tryz.prog 19 #[v113_85, (.int .i64 3)]) (fun v114_86 w =>
 gdM (gd v111_84 true) (oM Tryz.prog (Go.Op.binOp Go.BinOp.eql 3 (.tmp 0) (.const (.int .i64 18)) 3) 4 [v114_86]) (fun v115_87 w =>
 oM Tryz.prog (Go.Op.pick (.tmp 0) (.tmp 1) (.tmp 2)) 4 [v111_84, v115_87, (.bool false)] (fun v116_88 w =>
 gdM (gd v116_88 true) (oM Tryz.prog (Go.Op.load 35 (.tmp 0)) 35 [v1_4]) (fun v118_89 w =>
 gdM (gd v116_88 true) (callM Tryz.prog 19 #[v118_89, (.int .i64 0)]) (fun v119_90 w =>
 gdM (gd v116_88 true) (oM Tryz.prog (Go.Op.binOp Go.BinOp.eql 3 (.tmp 0) (.const (.int .i64 0)) 3) 4 [v119_90]) (fun v120_91 w =>
 oM Tryz.prog (Go.Op.pick (.tmp 0) (.tmp 1) (.tmp 2)) 4 [v116_88, v120_91, (.bool false)] (fun v121_92 w =>
 oM Tryz.prog (Go.Op.binOp Go.BinOp.eql 50 (.tmp 0) (.const (.int .i64 0)) 50) 4 [v29_12] (fun v123_93 w =>
 gdM (gd v123_93 true) (oM Tryz.prog (Go.Op.load 39 (.tmp 0)) 39 [v4_13]) (fun v125_94 w =>
 gdM (gd v123_93 true) (oM Tryz.prog (Go.Op.build 39 #[(0, (.tmp 0)), (1, (.tmp 1)), (2, (.tmp 2))]) 39 [(.int .i64 9), (.int .i64 16), (.int .i64 13)]) (fun v126_95 w =>
 gdM (gd v123_93 true) (oM Tryz.prog (Go.Op.binOp Go.BinOp.eql 39 (.tmp 0) (.tmp 1) 39) 4 [v125_94, v126_95]) (fun v127_96 w =>
 oM Tryz.prog (Go.Op.pick (.tmp 0) (.tmp 1) (.tmp 2)) 4 [v123_93, v127_96, (.bool false)] (fun v128_97 w =>
 gdM (gd v128_97 true) (oM Tryz.prog (Go.Op.load 35 (.tmp 0)) 35 [v1_4]) (fun v130_98 w =>
 gdM (gd v128_97 true) (callM Tryz.prog 15 #[v130_98, (.int .i64 3), (.int .i64 2), (.int .i64 6)]) (fun v131_99 w =>
 gdM (gd v128_97 true) (oM Tryz.prog (Go.Op.binOp Go.BinOp.eql 3 (.tmp 0) (.const (.int .i64 9)) 3) 4 [v131_99]) (fun v132_100 w =>
 oM Tryz.prog (Go.Op.pick (.tmp 0) (.tmp 1) (.tmp 2)) 4 [v128_97, v132_100, (.bool false)] (fun v133_101 w =>
 gdM (gd v133_101 true) (oM Tryz.prog (Go.Op.load 35 (.tmp 0)) 35 [v1_4]) (fun v135_102 w =>
 gdM (gd v133_101 true) (oM Tryz.prog (Go.Op.load 43 (.tmp 0)) 43 [v10_27]) (fun v136_103 w =>
 gdM (gd v133_101 true) (oM Tryz.prog (Go.Op.load 47 (.tmp 0)) 47 [v6_19]) (fun v137_104 w =>
 gdM (gd v133_101 true) (callM Tryz.prog 57 #[v135_102, v136_103, v137_104]) (fun v138_105 w =>
 oM Tryz.prog (Go.Op.pick (.tmp 0) (.tmp 1) (.tmp 2)) 4 [v133_101, v138_105, (.bool false)] (fun v139_106 w =>
 gdM (gd v139_106 true) (oM Tryz.prog (Go.Op.load 35 (.tmp 0)) 35 [v1_4]) (fun v141_107 w =>
 gdM (gd v139_106 true) (oM Tryz.prog (Go.Op.load 43 (.tmp 0)) 43 [v10_27]) (fun v142_108 w =>
 gdM (gd v139_106 true) (oM Tryz.prog (Go.Op.load 47 (.tmp 0)) 47 [v8_25]) (fun v143_109 w =>
 gdM (gd v139_106 true) (callM Tryz.prog 57 #[v141_107, v142_108, v143_109]) (fun v144_110 w =>
 oM Tryz.prog (Go.Op.pick (.tmp 0) (.tmp 1) (.tmp 2)) 4 [v139_106, v144_110, (.bool false)] (fun v145_111 w =>
 gdM (gd v145_111 true) (oM Tryz.prog (Go.Op.load 35 (.tmp 0)) 35 [v1_4]) (fun v147_112 w =>
 gdM (gd v145_111 true) (oM Tryz.prog (Go.Op.load 43 (.tmp 0)) 43 [v10_27]) (fun v148_113 w =>
 gdM (gd v145_111 true) (oM Tryz.prog (Go.Op.load 47 (.tmp 0)) 47 [v15_72]) (fun v149_114 w =>
 gdM (gd v145_111 true) (callM Tryz.prog 57 #[v147_112, v148_113, v149_114]) (fun v150_115 w =>
 gdM (gd v145_111 true) (oM Tryz.prog (Go.Op.unOp Go.UnOp.not 4 (.tmp 0)) 4 [v150_115]) (fun v151_116 w =>
 oM Tryz.prog (Go.Op.pick (.tmp 0) (.tmp 1) (.tmp 2)) 4 [v145_111, v151_116, (.bool false)] (fun v152_117 w =>
 gdM (gd v121_92 true) (pureM v152_117) (fun v155_118 w =>
 oM Tryz.prog (Go.Op.pick (.tmp 0) (.tmp 1) (.tmp 2)) 4 [v121_92, v155_118, (.bool false)] (fun v156_119 w =>
 gdM (gd v156_119 true) (oM Tryz.prog (Go.Op.load 35 (.tmp 0)) 35 [v1_4]) (fun v158_120 w =>
 gdM (gd v156_119 true) (oM Tryz.prog (Go.Op.load 43 (.tmp 0)) 43 [v10_27]) (fun v159_121 w =>
 gdM (gd v156_119 true) (oM Tryz.prog (Go.Op.load 47 (.tmp 0)) 47 [v6_19]) (fun v160_122 w =>
 gdM (gd v156_119 true) (oM Tryz.prog (Go.Op.load 47 (.tmp 0)) 47 [v8_25]) (fun v161_123 w =>
 gdM (gd v156_119 true) (pureM v21_5) (fun v162_124 w =>
 gdM (gd v156_119 true) (callM Tryz.prog 60 #[v158_120, v159_121, v160_122, v161_123, v162_124]) (fun v163_125 w =>
 oM Tryz.prog (Go.Op.pick (.tmp 0) (.tmp 1) (.tmp 2)) 4 [v156_119, v163_125, (.bool false)] (fun v164_126 w =>
 gdM (gd v164_126 true) (oM Tryz.prog (Go.Op.load 43 (.tmp 0)) 43 [v10_27]) (fun v166_127 w =>
 gdM (gd v164_126 true) (callM Tryz.prog 46 #[v166_127]) (fun v167_128 w =>
 gdM (gd v164_126 true) (oM Tryz.prog (Go.Op.binOp Go.BinOp.eql 9 (.tmp 0) (.const (.string ⟨#[54, 91, 56, 59, 49, 56, 59, 57, 59, 49, 54, 59, 49, 51, 59, 48, 59, 93]⟩)) 9) 4 [v167_128]) (fun v168_129 w =>
 oM Tryz.prog (Go.Op.pick (.tmp 0) (.tmp 1) (.tmp 2)) 4 [v164_126, v168_129, (.bool false)] (fun v169_130 w =>
 K v169_130 w) w) w) w) w) w) w) w) w) w) w) w) w) w) w) w) w) w) w) w) w) w) w) w) w) w) w) w) w) w) w) w) w) w) w) w) w) w) w) w) w) w) w) w) w) w) w) w) w) w) w) w) w) w) w) w) w) w) w) w) w) w) w) w)) w) w) w) w) w) w) w) w) w) w) w) w) w) w) w) w) w) w) w) w) w) w) w) w) w) w) w) w) w) w) w) w) w) w) w) w) w) w) w) w) w) w) w) w) w) w) w) w) w) w) w) w) w) w) w) w) w) w) w) w) w) w) w) w) w) w) w) w) w) w) w) w) w) w
theorem sh_22_eq (K : Value → World → Prop) (w : World) : sh_22 K w = code Tryz.prog (fun _ => 2) 170 (Tryz.f22.body.getD .skip) (slotsAt []) (retK Tryz.prog [.tmp 0] K) w := by kernel_rfl
theorem sh_22_ok {K : Value → World → Prop} {w : World} (h : sh_22 K w) : callM Tryz.prog 22 #[] K w :=
  calls_of_code (fun _ => 2) (fn := Tryz.f22) (rs := [.tmp 0]) Tryz.func22 rfl rfl (by kernel_rfl) (Nat.le_of_ble_eq_true rfl) ((sh_22_eq K w).mp h)

/-- cloak/cloakref04.Same -/
def sh_59 (a0 : Value) (a1 : Value) (K : Value → World → Prop) (w : World) : Prop :=
 oM Tryz.prog (Go.Op.call (Go.Call.mk (Go.Callee.builtin Go.Builtin.len) #[(.tmp 0)] #[22])) 3 [a0] (fun v7_1 w =>
 oM Tryz.prog (Go.Op.call (Go.Call.mk (Go.Callee.builtin Go.Builtin.len) #[(.tmp 0)] #[22])) 3 [a1] (fun v9_2 w =>
 oM Tryz.prog (Go.Op.binOp Go.BinOp.neq 3 (.tmp 0) (.tmp 1) 3) 4 [v7_1, v9_2] (fun v10_3 w =>
 condM v10_3
 (K (.bool false) w)
 (loopM [(.bool false), (.int .i64 0)] w (fun J_4 m_5 l_6 u_l_6 w0_l_6 => (fun w => (
 oM Tryz.prog (Go.Op.call (Go.Call.mk (Go.Callee.builtin Go.Builtin.len) #[(.tmp 0)] #[22])) 3 [a0] (fun v13_7 w =>
 oM Tryz.prog (Go.Op.binOp Go.BinOp.lss 3 (.tmp 0) (.tmp 1) 3) 4 [(l_6.getD 1 undef), v13_7] (fun v14_8 w =>
 condM v14_8
 (quietM w (fun C_9 => (oQ Tryz.prog (Go.Op.indexAddr 22 (.tmp 0) (.tmp 1)) 0 [a0, (l_6.getD 1 undef)] C_9 (fun v19_10 =>
 oQ Tryz.prog (Go.Op.load 3 (.tmp 0)) 3 [v19_10] C_9 (fun v20_11 =>
 oQ Tryz.prog (Go.Op.indexAddr 22 (.tmp 0) (.tmp 1)) 0 [a1, (l_6.getD 1 undef)] C_9 (fun v23_12 =>
 oQ Tryz.prog (Go.Op.load 3 (.tmp 0)) 3 [v23_12] C_9 (fun v24_13 =>
 oQ Tryz.prog (Go.Op.binOp Go.BinOp.neq 3 (.tmp 0) (.tmp 1) 3) 4 [v20_11, v24_13] C_9 (fun v25_14 =>
 ∀ w, C_9 w → (condM v25_14
 (K (.bool false) w)
 (oM Tryz.prog (Go.Op.binOp Go.BinOp.add 3 (.tmp 0) (.tmp 1) 3) 3 [(l_6.getD 1 undef), (.int .i64 1)] (fun v16_15 w =>
 J_4 [(l_6.getD 0 undef), v16_15] w ∧ m_5 [(l_6.getD 0 undef), v16_15] w < m_5 l_6 w0_l_6) w))))))))))
 (K (.bool true) w)) w) w)) w0_l_6))) w) w) w
theorem sh_59_eq (a0 : Value) (a1 : Value) (K : Value → World → Prop) (w : World) : sh_59 a0 a1 K w = code Tryz.prog (fun _ => 0) 26 (Tryz.f59.body.getD .skip) (slotsAt [a0, a1]) (retK Tryz.prog [.tmp 4] K) w := by kernel_rfl
theorem sh_59_ok {a0 a1 : Value} {K : Value → World → Prop} {w : World} (h : sh_59 a0 a1 K w) : callM Tryz.prog 59 #[a0, a1] K w :=
  calls_of_code (fun _ => 0) (fn := Tryz.f59) (rs := [.tmp 4]) Tryz.func59 rfl rfl (by kernel_rfl) (Nat.le_of_ble_eq_true rfl) ((sh_59_eq a0 a1 K w).mp h)

/-- (cloak/ticket.desk).inner -/
def sh_107 (a0 : Value) (a1 : Value) (K : Value → World → Prop) (w : World) : Prop :=
 oM Tryz.prog (Go.Op.box 111 (.tmp 0)) 0 [a0] (fun v2_1 w =>
 oM Tryz.prog (Go.Op.box 43 (.tmp 0)) 0 [a1] (fun v3_2 w =>
 heldM w (fun C_3 w => (oH Tryz.prog (Go.Op.fieldAddr 43 (.tmp 0) 0) 0 [v3_2] C_3 (fun v5_4 =>
 oH Tryz.prog (Go.Op.load 3 (.tmp 0)) 3 [v5_4] C_3 (fun v6_5 =>
 oH Tryz.prog (Go.Op.fieldAddr 43 (.tmp 0) 1) 0 [v3_2] C_3 (fun v7_6 =>
 oH Tryz.prog (Go.Op.load 3 (.tmp 0)) 3 [v7_6] C_3 (fun v8_7 =>
 oH Tryz.prog (Go.Op.fieldAddr 43 (.tmp 0) 2) 0 [v3_2] C_3 (fun v9_8 =>
 oH Tryz.prog (Go.Op.load 3 (.tmp 0)) 3 [v9_8] C_3 (fun v10_9 =>
 oH Tryz.prog (Go.Op.fieldAddr 43 (.tmp 0) 3) 0 [v3_2] C_3 (fun v11_10 =>
 oH Tryz.prog (Go.Op.load 3 (.tmp 0)) 3 [v11_10] C_3 (fun v12_11 =>
 oH Tryz.prog (Go.Op.fieldAddr 43 (.tmp 0) 4) 0 [v3_2] C_3 (fun v13_12 =>
 oH Tryz.prog (Go.Op.load 3 (.tmp 0)) 3 [v13_12] C_3 (fun v14_13 =>
 oH Tryz.prog (Go.Op.fieldAddr 111 (.tmp 0) 0) 0 [v2_1] C_3 (fun v17_14 =>
 oH Tryz.prog (Go.Op.fieldAddr 35 (.tmp 0) 0) 0 [v17_14] C_3 (fun v18_15 =>
 oH Tryz.prog (Go.Op.fieldAddr 33 (.tmp 0) 1) 0 [v18_15] C_3 (fun v19_16 =>
 oH Tryz.prog (Go.Op.load 3 (.tmp 0)) 3 [v19_16] C_3 (fun v20_17 =>
 oM Tryz.prog (Go.Op.buildSlice 22 5 #[(0, (.tmp 0)), (1, (.tmp 1)), (2, (.tmp 2)), (3, (.tmp 3)), (4, (.tmp 4))]) 22 [v6_5, v8_7, v10_9, v12_11, v14_13] (fun v15_18 w => C_3 w ∧ (
 callM Tryz.prog 119 #[v15_18] (fun v16_19 w => C_3 w ∧ (
 callM Tryz.prog 130 #[v16_19, v20_17] (fun v21_20 w => C_3 w ∧ (
 C_3 w ∧ (K v21_20 w))) w)) w)) w))))))))))))))))) w) w
theorem sh_107_eq (a0 : Value) (a1 : Value) (K : Value → World → Prop) (w : World) : sh_107 a0 a1 K w = code Tryz.prog (fun _ => 2) 22 (Tryz.f107.body.getD .skip) (slotsAt [a0, a1]) (retK Tryz.prog [.tmp 4] K) w := by kernel_rfl
theorem sh_107_ok {a0 a1 : Value} {K : Value → World → Prop} {w : World} (h : sh_107 a0 a1 K w) : callM Tryz.prog 107 #[a0, a1] K w :=
  calls_of_code (fun _ => 2) (fn := Tryz.f107) (rs := [.tmp 4]) Tryz.func107 rfl rfl (by kernel_rfl) (Nat.le_of_ble_eq_true rfl) ((sh_107_eq a0 a1 K w).mp h)

/-- cloak/field.Number -/
def sh_130 (a0 : Value) (a1 : Value) (K : Value → World → Prop) (w : World) : Prop :=
 callM Tryz.prog 79 #[a1] (fun v9_1 w =>
 oM Tryz.prog (Go.Op.unOp Go.UnOp.not 4 (.tmp 0)) 4 [v9_1] (fun v10_2 w =>
 condM v10_2
 (K (.int .i64 0) w)
 (callM Tryz.prog 171 #[a0] (fun v12_3 w =>
 oM Tryz.prog (Go.Op.convert 9 189 (.tmp 0)) 189 [v12_3] (fun v13_4 w =>
 oM Tryz.prog (Go.Op.call (Go.Call.mk (Go.Callee.builtin Go.Builtin.len) #[(.tmp 0)] #[189])) 3 [v13_4] (fun v14_5 w =>
 loopM [undef, (.int .i64 0), (.int .i64 0)] w (fun J_6 m_7 l_8 u_l_8 w0_l_8 => (fun w => (
 oM Tryz.prog (Go.Op.binOp Go.BinOp.lss 3 (.tmp 0) (.tmp 1) 3) 0 [(l_8.getD 2 undef), v14_5] (fun v16_9 w =>
 condM v16_9
 (oM Tryz.prog (Go.Op.indexAddr 189 (.tmp 0) (.tmp 1)) 0 [v13_4, (l_8.getD 2 undef)] (fun v17_10 w =>
 oM Tryz.prog (Go.Op.load 5 (.tmp 0)) 5 [v17_10] (fun v18_11 w =>
 callM Tryz.prog 16 #[a1, (l_8.getD 1 undef), (.int .i64 256)] (fun v22_12 w =>
 oM Tryz.prog (Go.Op.convert 5 3 (.tmp 0)) 3 [v18_11] (fun v24_13 w =>
 callM Tryz.prog 143 #[a1, v22_12, v24_13] (fun v25_14 w =>
 oM Tryz.prog (Go.Op.binOp Go.BinOp.add 3 (.tmp 0) (.tmp 1) 3) 3 [(l_8.getD 2 undef), (.int .i64 1)] (fun v26_15 w =>
 J_6 [v18_11, v25_14, v26_15] w ∧ m_7 [v18_11, v25_14, v26_15] w < m_7 l_8 w0_l_8) w) w) w) w) w) w)
 (K (l_8.getD 1 undef) w)) w)) w0_l_8)) w) w) w)) w) w
theorem sh_130_eq (a0 : Value) (a1 : Value) (K : Value → World → Prop) (w : World) : sh_130 a0 a1 K w = code Tryz.prog (fun _ => 2) 28 (Tryz.f130.body.getD .skip) (slotsAt [a0, a1]) (retK Tryz.prog [.tmp 4] K) w := by kernel_rfl
theorem sh_130_ok {a0 a1 : Value} {K : Value → World → Prop} {w : World} (h : sh_130 a0 a1 K w) : callM Tryz.prog 130 #[a0, a1] K w :=
  calls_of_code (fun _ => 2) (fn := Tryz.f130) (rs := [.tmp 4]) Tryz.func130 rfl rfl (by kernel_rfl) (Nat.le_of_ble_eq_true rfl) ((sh_130_eq a0 a1 K w).mp h)

/-- cloak/ticket.Inner -/
def sh_53 (a0 : Value) (a1 : Value) (K : Value → World → Prop) (w : World) : Prop :=
 oM Tryz.prog (Go.Op.box 35 (.tmp 0)) 0 [a0] (fun v2_1 w =>
 oM Tryz.prog (Go.Op.box 43 (.tmp 0)) 0 [a1] (fun v3_2 w =>
 oM Tryz.prog (Go.Op.load 35 (.tmp 0)) 35 [v2_1] (fun v8_3 w =>
 oM Tryz.prog (Go.Op.load 43 (.tmp 0)) 43 [v3_2] (fun v9_4 w =>
 callM Tryz.prog 124 #[v8_3, v9_4] (fun v10_5 w =>
 oM Tryz.prog (Go.Op.extract (.tmp 0) 0) 111 [v10_5] (fun v11_6 w =>
 oM Tryz.prog (Go.Op.extract (.tmp 0) 1) 4 [v10_5] (fun v12_7 w =>
 oM Tryz.prog (Go.Op.alloc 111) 0 [] (fun v5_8 w =>
 oM Tryz.prog (Go.Op.store 111 (.tmp 0) (.tmp 1)) 0 [v5_8, v11_6] (fun _ w =>
 condM v12_7
 (oM Tryz.prog (Go.Op.load 111 (.tmp 0)) 111 [v5_8] (fun v14_9 w =>
 oM Tryz.prog (Go.Op.load 43 (.tmp 0)) 43 [v3_2] (fun v15_10 w =>
 callM Tryz.prog 107 #[v14_9, v15_10] (fun v16_11 w =>
 K v16_11 w) w) w) w)
 (K (.int .i64 0) w)) w) w) w) w) w) w) w) w) w
theorem sh_53_eq (a0 : Value) (a1 : Value) (K : Value → World → Prop) (w : World) : sh_53 a0 a1 K w = code Tryz.prog (fun _ => 2) 17 (Tryz.f53.body.getD .skip) (slotsAt [a0, a1]) (retK Tryz.prog [.tmp 4] K) w := by kernel_rfl
theorem sh_53_ok {a0 a1 : Value} {K : Value → World → Prop} {w : World} (h : sh_53 a0 a1 K w) : callM Tryz.prog 53 #[a0, a1] K w :=
  calls_of_code (fun _ => 2) (fn := Tryz.f53) (rs := [.tmp 4]) Tryz.func53 rfl rfl (by kernel_rfl) (Nat.le_of_ble_eq_true rfl) ((sh_53_eq a0 a1 K w).mp h)

/-- cloak/ticket.Formed -/
def sh_51 (a0 : Value) (a1 : Value) (K : Value → World → Prop) (w : World) : Prop :=
 oM Tryz.prog (Go.Op.box 35 (.tmp 0)) 0 [a0] (fun v2_1 w =>
 oM Tryz.prog (Go.Op.box 43 (.tmp 0)) 0 [a1] (fun v3_2 w =>
 oM Tryz.prog (Go.Op.load 35 (.tmp 0)) 35 [v2_1] (fun v8_3 w =>
 oM Tryz.prog (Go.Op.load 43 (.tmp 0)) 43 [v3_2] (fun v9_4 w =>
 callM Tryz.prog 124 #[v8_3, v9_4] (fun v10_5 w =>
 oM Tryz.prog (Go.Op.extract (.tmp 0) 0) 111 [v10_5] (fun v11_6 w =>
 oM Tryz.prog (Go.Op.extract (.tmp 0) 1) 4 [v10_5] (fun v12_7 w =>
 oM Tryz.prog (Go.Op.alloc 111) 0 [] (fun v5_8 w =>
 oM Tryz.prog (Go.Op.store 111 (.tmp 0) (.tmp 1)) 0 [v5_8, v11_6] (fun _ w =>
 K v12_7 w) w) w) w) w) w) w) w) w) w
theorem sh_51_eq (a0 : Value) (a1 : Value) (K : Value → World → Prop) (w : World) : sh_51 a0 a1 K w = code Tryz.prog (fun _ => 2) 14 (Tryz.f51.body.getD .skip) (slotsAt [a0, a1]) (retK Tryz.prog [.tmp 4] K) w := by kernel_rfl
theorem sh_51_ok {a0 a1 : Value} {K : Value → World → Prop} {w : World} (h : sh_51 a0 a1 K w) : callM Tryz.prog 51 #[a0, a1] K w :=
  calls_of_code (fun _ => 2) (fn := Tryz.f51) (rs := [.tmp 4]) Tryz.func51 rfl rfl (by kernel_rfl) (Nat.le_of_ble_eq_true rfl) ((sh_51_eq a0 a1 K w).mp h)

/-- cloak/ticket.Valid -/
def sh_55 (a0 : Value) (a1 : Value) (a2 : Value) (K : Value → World → Prop) (w : World) : Prop :=
 oM Tryz.prog (Go.Op.box 35 (.tmp 0)) 0 [a0] (fun v3_1 w =>
 oM Tryz.prog (Go.Op.box 43 (.tmp 0)) 0 [a2] (fun v5_2 w =>
 oM Tryz.prog (Go.Op.load 35 (.tmp 0)) 35 [v3_1] (fun v11_3 w =>
 oM Tryz.prog (Go.Op.load 43 (.tmp 0)) 43 [v5_2] (fun v12_4 w =>
 callM Tryz.prog 124 #[v11_3, v12_4] (fun v13_5 w =>
 oM Tryz.prog (Go.Op.extract (.tmp 0) 0) 111 [v13_5] (fun v14_6 w =>
 oM Tryz.prog (Go.Op.extract (.tmp 0) 1) 4 [v13_5] (fun v15_7 w =>
 oM Tryz.prog (Go.Op.alloc 111) 0 [] (fun v7_8 w =>
 oM Tryz.prog (Go.Op.store 111 (.tmp 0) (.tmp 1)) 0 [v7_8, v14_6] (fun _ w =>
 oM Tryz.prog (Go.Op.unOp Go.UnOp.not 4 (.tmp 0)) 4 [v15_7] (fun v17_9 w =>
 gdM (gd v17_9 false) (oM Tryz.prog (Go.Op.load 111 (.tmp 0)) 111 [v7_8]) (fun v19_10 w =>
 gdM (gd v17_9 false) (pureM a1) (fun v20_11 w =>
 gdM (gd v17_9 false) (callM Tryz.prog 125 #[v19_10, v20_11]) (fun v21_12 w =>
 gdM (gd v17_9 false) (oM Tryz.prog (Go.Op.unOp Go.UnOp.not 4 (.tmp 0)) 4 [v21_12]) (fun v22_13 w =>
 oM Tryz.prog (Go.Op.pick (.tmp 0) (.tmp 1) (.tmp 2)) 4 [v17_9, (.bool true), v22_13] (fun v23_14 w =>
 condM v23_14
 (K (.bool false) w)
 (oM Tryz.prog (Go.Op.load 111 (.tmp 0)) 111 [v7_8] (fun v24_15 w =>
 oM Tryz.prog (Go.Op.load 43 (.tmp 0)) 43 [v5_2] (fun v25_16 w =>
 callM Tryz.prog 107 #[v24_15, v25_16] (fun v26_17 w =>
 oM Tryz.prog (Go.Op.binOp Go.BinOp.neq 3 (.tmp 0) (.const (.int .i64 0)) 3) 4 [v26_17] (fun v28_18 w =>
 gdM (gd v28_18 true) (oM Tryz.prog (Go.Op.load 111 (.tmp 0)) 111 [v7_8]) (fun v30_19 w =>
 gdM (gd v28_18 true) (pureM a1) (fun v31_20 w =>
 gdM (gd v28_18 true) (oM Tryz.prog (Go.Op.fieldAddr 43 (.tmp 0) 0) 0 [v5_2]) (fun v32_21 w =>
 gdM (gd v28_18 true) (oM Tryz.prog (Go.Op.load 3 (.tmp 0)) 3 [v32_21]) (fun v33_22 w =>
 gdM (gd v28_18 true) (pureM v26_17) (fun v34_23 w =>
 gdM (gd v28_18 true) (oM Tryz.prog (Go.Op.fieldAddr 43 (.tmp 0) 5) 0 [v5_2]) (fun v35_24 w =>
 gdM (gd v28_18 true) (oM Tryz.prog (Go.Op.load 3 (.tmp 0)) 3 [v35_24]) (fun v36_25 w =>
 gdM (gd v28_18 true) (oM Tryz.prog (Go.Op.fieldAddr 43 (.tmp 0) 2) 0 [v5_2]) (fun v37_26 w =>
 gdM (gd v28_18 true) (oM Tryz.prog (Go.Op.load 3 (.tmp 0)) 3 [v37_26]) (fun v38_27 w =>
 gdM (gd v28_18 true) (oM Tryz.prog (Go.Op.fieldAddr 43 (.tmp 0) 3) 0 [v5_2]) (fun v39_28 w =>
 gdM (gd v28_18 true) (oM Tryz.prog (Go.Op.load 3 (.tmp 0)) 3 [v39_28]) (fun v40_29 w =>
 gdM (gd v28_18 true) (oM Tryz.prog (Go.Op.fieldAddr 43 (.tmp 0) 4) 0 [v5_2]) (fun v41_30 w =>
 gdM (gd v28_18 true) (oM Tryz.prog (Go.Op.load 3 (.tmp 0)) 3 [v41_30]) (fun v42_31 w =>
 gdM (gd v28_18 true) (oM Tryz.prog (Go.Op.build 39 #[(0, (.tmp 0)), (1, (.tmp 1)), (2, (.tmp 2))]) 39 [v38_27, v40_29, v42_31]) (fun v43_32 w =>
 gdM (gd v28_18 true) (callM Tryz.prog 83 #[v30_19, v31_20, v33_22, v34_23, v36_25, v43_32]) (fun v44_33 w =>
 oM Tryz.prog (Go.Op.pick (.tmp 0) (.tmp 1) (.tmp 2)) 4 [v28_18, v44_33, (.bool false)] (fun v45_34 w =>
 K v45_34 w) w) w) w) w) w) w) w) w) w) w) w) w) w) w) w) w) w) w) w) w)) w) w) w) w) w) w) w) w) w) w) w) w) w) w) w
theorem sh_55_eq (a0 : Value) (a1 : Value) (a2 : Value) (K : Value → World → Prop) (w : World) : sh_55 a0 a1 a2 K w = code Tryz.prog (fun _ => 2) 46 (Tryz.f55.body.getD .skip) (slotsAt [a0, a1, a2]) (retK Tryz.prog [.tmp 6] K) w := by kernel_rfl
theorem sh_55_ok {a0 a1 a2 : Value} {K : Value → World → Prop} {w : World} (h : sh_55 a0 a1 a2 K w) : callM Tryz.prog 55 #[a0, a1, a2] K w :=
  calls_of_code (fun _ => 2) (fn := Tryz.f55) (rs := [.tmp 6]) Tryz.func55 rfl rfl (by kernel_rfl) (Nat.le_of_ble_eq_true rfl) ((sh_55_eq a0 a1 a2 K w).mp h)

/-- cloak/ticket.LendDare -/
def sh_63 (a0 : Value) (a1 : Value) (a2 : Value) (K : Value → World → Prop) (w : World) : Prop :=
 oM Tryz.prog (Go.Op.box 35 (.tmp 0)) 0 [a0] (fun v3_1 w =>
 oM Tryz.prog (Go.Op.box 43 (.tmp 0)) 0 [a1] (fun v4_2 w =>
 oM Tryz.prog (Go.Op.load 35 (.tmp 0)) 35 [v3_1] (fun v11_3 w =>
 callM Tryz.prog 78 #[v11_3] (fun v12_4 w =>
 oM Tryz.prog (Go.Op.extract (.tmp 0) 0) 111 [v12_4] (fun v13_5 w =>
 oM Tryz.prog (Go.Op.extract (.tmp 0) 1) 4 [v12_4] (fun v14_6 w =>
 oM Tryz.prog (Go.Op.alloc 111) 0 [] (fun v7_7 w =>
 oM Tryz.prog (Go.Op.store 111 (.tmp 0) (.tmp 1)) 0 [v7_7, v13_5] (fun _ w =>
 oM Tryz.prog (Go.Op.unOp Go.UnOp.not 4 (.tmp 0)) 4 [v14_6] (fun v16_8 w =>
 condM v16_8
 (K (.int .i64 0) w)
 (oM Tryz.prog (Go.Op.fieldAddr 35 (.tmp 0) 0) 0 [v3_1] (fun v17_9 w =>
 oM Tryz.prog (Go.Op.fieldAddr 33 (.tmp 0) 1) 0 [v17_9] (fun v18_10 w =>
 oM Tryz.prog (Go.Op.load 3 (.tmp 0)) 3 [v18_10] (fun v19_11 w =>
 oM Tryz.prog (Go.Op.binOp Go.BinOp.quo 3 (.tmp 0) (.tmp 1) 3) 3 [v19_11, (.int .i64 2)] (fun v20_12 w =>
 heldM w (fun C_13 w => (pureH v20_12 C_13 (fun v21_14 =>
 oH Tryz.prog (Go.Op.binOp Go.BinOp.add 3 (.tmp 0) (.tmp 1) 3) 3 [v21_14, (.int .i64 1)] C_13 (fun v22_15 =>
 oH Tryz.prog (Go.Op.load 43 (.tmp 0)) 43 [v4_2] C_13 (fun v23_16 =>
 pureH a2 C_13 (fun v25_17 =>
 oH Tryz.prog (Go.Op.fieldAddr 35 (.tmp 0) 0) 0 [v3_1] C_13 (fun v28_18 =>
 oH Tryz.prog (Go.Op.fieldAddr 33 (.tmp 0) 1) 0 [v28_18] C_13 (fun v29_19 =>
 oH Tryz.prog (Go.Op.load 3 (.tmp 0)) 3 [v29_19] C_13 (fun v30_20 =>
 oH Tryz.prog (Go.Op.binOp Go.BinOp.sub 3 (.tmp 0) (.tmp 1) 3) 3 [v30_20, (.int .i64 1)] C_13 (fun v31_21 =>
 pureH v20_12 C_13 (fun v32_22 =>
 oH Tryz.prog (Go.Op.binOp Go.BinOp.sub 3 (.tmp 0) (.tmp 1) 3) 3 [v31_21, v32_22] C_13 (fun v33_23 =>
 callM Tryz.prog 46 #[v23_16] (fun v24_24 w => C_13 w ∧ (
 callM Tryz.prog 131 #[v25_17] (fun v26_25 w => C_13 w ∧ (
 oM Tryz.prog (Go.Op.binOp Go.BinOp.add 9 (.tmp 0) (.tmp 1) 9) 9 [v24_24, v26_25] (fun v27_26 w => C_13 w ∧ (
 callM Tryz.prog 130 #[v27_26, v33_23] (fun v34_27 w => C_13 w ∧ (
 oM Tryz.prog (Go.Op.binOp Go.BinOp.add 3 (.tmp 0) (.tmp 1) 3) 3 [v22_15, v34_27] (fun v35_28 w => C_13 w ∧ (
 C_13 w ∧ (K v35_28 w))) w)) w)) w)) w)) w))))))))))))) w) w) w) w)) w) w) w) w) w) w) w) w) w
theorem sh_63_eq (a0 : Value) (a1 : Value) (a2 : Value) (K : Value → World → Prop) (w : World) : sh_63 a0 a1 a2 K w = code Tryz.prog (fun _ => 2) 36 (Tryz.f63.body.getD .skip) (slotsAt [a0, a1, a2]) (retK Tryz.prog [.tmp 6] K) w := by kernel_rfl
theorem sh_63_ok {a0 a1 a2 : Value} {K : Value → World → Prop} {w : World} (h : sh_63 a0 a1 a2 K w) : callM Tryz.prog 63 #[a0, a1, a2] K w :=
  calls_of_code (fun _ => 2) (fn := Tryz.f63) (rs := [.tmp 6]) Tryz.func63 rfl rfl (by kernel_rfl) (Nat.le_of_ble_eq_true rfl) ((sh_63_eq a0 a1 a2 K w).mp h)

end Go.Proofs
/- What is known of some cells, while calls go on. -/
namespace Go.Sh
open Go Go.RowKit
@[reducible] def cellsAre (w : World) : List (Addr × Value) → Prop
  | [] => True
  | p :: l => w.cell? p.1 = some p.2 ∧ cellsAre w l
theorem cellsAre_keep {w w' : World} : ∀ {L : List (Addr × Value)}, cellsAre w L → (∀ (a : Addr), a.block < w.heap.size → w'.cell? a = w.cell? a) → cellsAre w' L
  | [], _, _ => trivial
  | p :: l, h, k => by
    refine ⟨?_, cellsAre_keep h.2 k⟩
    have hlt : p.1.block < w.heap.size := by
      have h1 := h.1
      by_cases hc : p.1.block < w.heap.size
      · exact hc
      · unfold World.cell? at h1
        rw [Array.getElem?_eq_none (by omega)] at h1
        simp at h1
    rw [k _ hlt]; exact h.1
theorem cellsAre_keepBut {w w' : World} {g : Nat} : ∀ {L : List (Addr × Value)}, cellsAre w L → (∀ p ∈ L, p.1.block ≠ g) → (∀ (a : Addr), a.block < w.heap.size → a.block ≠ g → w'.cell? a = w.cell? a) → cellsAre w' L
  | [], _, _, _ => trivial
  | p :: l, h, hn, k => by
    refine ⟨?_, cellsAre_keepBut h.2 (fun q hq => hn q (List.mem_cons_of_mem _ hq)) k⟩
    have hlt : p.1.block < w.heap.size := by
      have h1 := h.1
      by_cases hc : p.1.block < w.heap.size
      · exact hc
      · unfold World.cell? at h1
        rw [Array.getElem?_eq_none (by omega)] at h1
        simp at h1
    rw [k _ hlt (hn p (List.mem_cons_self ..))]; exact h.1
theorem cellsAre_append {w : World} : ∀ {A B : List (Addr × Value)}, cellsAre w A → cellsAre w B → cellsAre w (A ++ B)
  | [], _, _, hb => hb
  | _ :: _, _, ha, hb => ⟨ha.1, cellsAre_append ha.2 hb⟩
/-- w' comes after w0, and holds these cells -/
structure Kn (w0 : World) (L : List (Addr × Value)) (w' : World) : Prop where
  below : Below w0.heap.size w0 w'
  cells : cellsAre w' L
namespace Kn
variable {w0 w w' : World} {L : List (Addr × Value)}
theorem start (w : World) : Kn w [] w := ⟨Below.refl _ _, trivial⟩
theorem next (h : Kn w0 L w) (hb : Below w.heap.size w w') : Kn w0 L w' := ⟨h.below.on hb, cellsAre_keep h.cells fun a ha => hb.cell ha⟩
theorem drew (h : Kn w0 L w) : Kn w0 L { w with drawn := w.drawn + 1 } := h.next .drawn
/-- a block of one's own is written -/
theorem wrote (h : Kn w0 L w) {g : Nat} (hg : w.grownBy w' (some g)) (h0 : w0.heap.size ≤ g) (hn : ∀ p ∈ L, p.1.block ≠ g) : Kn w0 L w' :=
  ⟨h.below.grown hg h.below.size (fun k hk => by cases hk; exact h0),
    cellsAre_keepBut h.cells hn fun a ha hna => World.cell?_of_block (w := w) (hg.block _ ha (fun e => hna (Option.some.inj e)))⟩
theorem more {A : List (Addr × Value)} (h : Kn w0 L w) (ha : cellsAre w A) : Kn w0 (A ++ L) w := ⟨h.below, cellsAre_append ha h.cells⟩
theorem less {A : List (Addr × Value)} (h : Kn w0 (A ++ L) w) : Kn w0 L w := ⟨h.below, by
  have := h.cells
  clear h
  induction A with
  | nil => exact this
  | cons a A ih => exact ih this.2⟩
end Kn
/-- the cells of a block, one after another -/
@[reducible] def cellsOf (L : List (Addr × Value)) (b : Nat) : Nat → List Value → List (Addr × Value)
  | _, [] => L
  | i, v :: l => (⟨b, i, none⟩, v) :: cellsOf L b (i + 1) l
theorem cellsOf_are {w : World} {b : Nat} {xs : List Value} {L : List (Addr × Value)} (hL : cellsAre w L) (h : ∀ (i : Nat) (v : Value), xs[i]? = some v → w.cell? ⟨b, i, none⟩ = some v) : ∀ (l : List Value) (i : Nat), xs.drop i = l → cellsAre w (cellsOf L b i l)
  | [], _, _ => hL
  | v :: l, i, e => by
    have hv : xs[i]? = some v := by
      have := congrArg (·[0]?) e
      simpa using this
    refine ⟨h i v hv, cellsOf_are hL h l (i + 1) ?_⟩
    have := congrArg List.tail e
    simpa using this
/-- an object that is mine: where it lies, what it holds -/
def Mine (w : World) (g : Nat) (n : Nat) : Prop := ∃ cur T, w.heap[g]? = some (.cells cur T (0, 0)) ∧ cur.size = n
theorem Mine.next {w w' : World} {g n : Nat} (h : Mine w g n) (hb : Below w.heap.size w w') : Mine w' g n := by
  obtain ⟨cur, T, h1, h2⟩ := h
  refine ⟨cur, T, ?_, h2⟩
  rw [hb.block g (Array.getElem?_eq_some_iff.1 h1).1]; exact h1
section
variable {P : Program} {w0 w : World} {K : Value → World → Prop} {T T' : TypeId} {L : List (Addr × Value)}
theorem box_kn {x : Value} {cs : List Value} (hx : x.cells = cs.toArray) (hk : Kn w0 L w) (k : ∀ b W, Kn w0 (cellsOf L b 0 cs) W → Below w.heap.size w W → w.heap.size ≤ b → K (.pointer (some ⟨b, 0, none⟩)) W) : oM P (.box T (.tmp 0)) T' [x] K w :=
  box_in hx fun g W h1 h2 h3 => k g W ⟨(hk.next h1).below, cellsOf_are (xs := cs) (hk.next h1).cells (fun i v hi => h3 W (Below.refl _ _) i v hi) cs 0 rfl⟩ h1 h2
end
end Go.Sh
/- Setups, and the functions of tickets that need no digest, as plain functions. No program in sight. -/
namespace TkSpec
open FdSpec
structure Stp where
  g : Grp
  bases : List Int
  blind : Int
deriving DecidableEq
structure Bld where
  s : Int
  u : Int
  v : Int
  ys : List Int
deriving DecidableEq
structure Tkt where
  mark : Int
  first : Int
  z : Int
  a : Int
  b : Int
  r : Int
deriving DecidableEq
structure Spd where
  dare : Int
  answers : List Int
deriving DecidableEq
structure Off where
  z : Int
  a : Int
  b : Int
deriving DecidableEq
def otherM (g : Grp) (x : Int) : Bool := !decide (x = 1) && elemG g x
def validS (s : Stp) : Bool := validG s.g && decide (2 ≤ s.bases.length) && decide (s.bases.length ≤ 7) && s.bases.all (otherM s.g) && otherM s.g s.blind
def numsM (s : Stp) (least : Int) (l : List Int) : Bool := l.all fun n => decide (least ≤ n) && decide (n < s.g.Q)
def elementsM (s : Stp) (l : List Int) : Bool := l.all (elemG s.g)
def keyM (s : Stp) (k : Int) : Bool := !decide (k = 1) && elementsM s [k]
def genM (s : Stp) (k : Int) : Int := powerG s.g s.g.G k
def timesM (s : Stp) (first : Int) (l : List Int) : Int := l.foldl (fun a x => timesG s.g a x) first
def mulQ (s : Stp) (first : Int) (l : List Int) : Int := l.foldl (fun a x => mulM s.g.Q a x) first
def overQ (s : Stp) (a b : Int) : Int := mulQ s a [powM s.g.Q b (-1)]
def plusQ (s : Stp) (a b : Int) : Int := addM s.g.Q a b
def lessQ (s : Stp) (a b : Int) : Int := subM s.g.Q a b
def expsM (attrs : List Int) : List Int := 1 :: attrs
def markM (s : Stp) (attrs : List Int) : Int × Bool :=
  if validS s && decide (attrs.length + 1 = s.bases.length) && numsM s 0 attrs && !decide (attrs.headD 0 = 0) then ((prodG s.g s.bases (expsM attrs)).1, true) else (0, false)
def usableM (s : Stp) (attrs : List Int) : Int × Bool := ((markM s attrs).1, (markM s attrs).2 && !decide ((markM s attrs).1 = 1))
def publicM (s : Stp) (x : Int) : Int := if validS s && numsM s 1 [x] then genM s x else 0
def proposeM (s : Stp) (x : Int) (attrs : List Int) (w : Int) : Off × Int :=
  if (usableM s attrs).2 && numsM s 1 [x] && numsM s 0 [w] then (⟨powerG s.g (usableM s attrs).1 x, genM s w, powerG s.g (usableM s attrs).1 w⟩, 0) else (⟨0, 0, 0⟩, 1)
def blindsM (s : Stp) (b : Bld) : Bool := numsM s 1 [b.s, b.u] && numsM s 0 [b.v] && decide (b.ys.length = s.bases.length) && numsM s 0 b.ys
def grantM (s : Stp) (x w c : Int) : Int := if validS s && numsM s 1 [x] && numsM s 0 [w, c] then plusQ s (mulQ s c [x]) w else 0
def useM (s : Stp) (attrs : List Int) (b : Bld) (dare : Int) : Spd × Bool :=
  if (usableM s attrs).2 && blindsM s b && numsM s 1 [dare] then (⟨dare, ((expsM attrs).zip b.ys).map fun p => plusQ s p.2 (mulQ s dare [b.s, p.1])⟩, true) else (⟨0, []⟩, false)
def formedM (s : Stp) (t : Tkt) : Bool := validS s && !decide (t.mark = 1) && elementsM s [t.mark, t.first, t.z, t.a, t.b] && numsM s 0 [t.r]
def acceptsM (s : Stp) (t : Tkt) (x : Spd) : Bool :=
  if formedM s t && numsM s 1 [x.dare] && decide (x.answers.length = s.bases.length) && numsM s 0 x.answers then decide ((prodG s.g s.bases x.answers).1 = timesM s (powerG s.g t.mark x.dare) [t.first]) else false
def gapsM (s : Stp) (t : Tkt) (a b : Spd) : List Int × Bool :=
  if decide (a.dare = b.dare) || !acceptsM s t a || !acceptsM s t b then ([], false)
  else ((a.answers.zip b.answers).map fun p => lessQ s p.1 p.2, !decide (((a.answers.zip b.answers).map fun p => lessQ s p.1 p.2).headD 0 = 0))
def traceM (s : Stp) (t : Tkt) (a b : Spd) : List Int × Bool :=
  if (gapsM s t a b).2 then ((gapsM s t a b).1.tail.map fun n => overQ s n ((gapsM s t a b).1.headD 0), true) else ([], false)
def guiltyM (s : Stp) (t : Tkt) (a b : Spd) (attrs : List Int) : Bool :=
  if (gapsM s t a b).2 && decide (attrs.length + 1 = (gapsM s t a b).1.length) && numsM s 0 attrs then
    (attrs.zip (gapsM s t a b).1.tail).all fun p => decide (mulQ s p.1 [(gapsM s t a b).1.headD 0] = p.2)
  else false
/-- the example of the law's head -/
def s0 : Stp := ⟨⟨23, 11, 4⟩, [4, 16, 18], 3⟩
def b0 : Bld := ⟨4, 1, 0, [1, 2, 3]⟩
def t0 : Tkt := ⟨8, 18, 9, 16, 13, 0⟩
theorem sane_facts :
    proposeM s0 3 [5, 7] 2 = (⟨9, 16, 13⟩, 0) ∧ useM s0 [5, 7] b0 2 = (⟨2, [9, 9, 4]⟩, true) ∧ useM s0 [5, 7] b0 5 = (⟨5, [10, 3, 0]⟩, true) ∧
    traceM s0 t0 ⟨2, [9, 9, 4]⟩ ⟨5, [10, 3, 0]⟩ = ([5, 7], true) ∧ (traceM s0 t0 ⟨2, [9, 9, 4]⟩ ⟨2, [9, 9, 4]⟩).2 = false ∧
    markM s0 [5, 7] = (6, true) ∧ (usableM s0 [5, 7]).2 = true ∧ (usableM s0 [5, 0]).2 = false ∧ publicM s0 3 = 18 ∧ publicM s0 0 = 0 ∧ grantM s0 3 2 6 = 9 ∧
    acceptsM s0 t0 ⟨2, [9, 9, 4]⟩ = true ∧ acceptsM s0 t0 ⟨5, [10, 3, 0]⟩ = true ∧ acceptsM s0 t0 ⟨3, [9, 9, 4]⟩ = false ∧ guiltyM s0 t0 ⟨2, [9, 9, 4]⟩ ⟨5, [10, 3, 0]⟩ [5, 7] = true := by
  decide +kernel
end TkSpec
--G
namespace Go.Proofs
open Go Go.Sh Go.RowKit FdSpec TkSpec
set_option linter.unusedSimpArgs false
set_option linter.unusedVariables false
set_option maxRecDepth 10000
section
variable {K : Value → World → Prop} {w : World}
@[reducible] def stpV (s : Stp) (v : Value) : Value := .agg #[.int .i64 s.g.P, .int .i64 s.g.Q, .int .i64 s.g.G, v, .int .i64 s.blind]
@[reducible] def stpC (s : Stp) (v : Value) : List Value := [.int .i64 s.g.P, .int .i64 s.g.Q, .int .i64 s.g.G, v, .int .i64 s.blind]
structure SetR (w : World) (s : Stp) (v : Value) : Prop where
  grp : GrpR s.g
  ints : Ints w v s.bases
  blind : I64 s.blind
  db : DbT w
theorem DbT.next {w w' : World} (h : DbT w) (hb : Below w.heap.size w w') : DbT w' := h.below hb (Nat.le_refl _)
theorem SetR.next {w w' : World} {s : Stp} {v : Value} (h : SetR w s v) (hb : Below w.heap.size w w') : SetR w' s v := ⟨h.grp, h.ints.next hb, h.blind, h.db.next hb⟩
theorem other_ok (g : Grp) (x : Int) {b : Nat} (hg : GrpR g) (hT : DbT w) (h0 : w.cell? ⟨b, 0, none⟩ = some (.int .i64 g.P)) (h1 : w.cell? ⟨b, 1, none⟩ = some (.int .i64 g.Q)) (h2 : w.cell? ⟨b, 2, none⟩ = some (.int .i64 g.G))
    (k : ∀ w', Below w.heap.size w w' → K (.bool (otherM g x)) w') : callM Tryz.prog 175 #[.int .i64 x, .pointer (some ⟨b, 0, none⟩)] K w := by
  apply sh_175_ok
  unfold sh_175
  unfold otherM at k
  by_cases hx : x = 1
  · have k := k w (Below.refl _ _)
    repeat (any_goals (first
    | (with_reducible first|refine pureM_in ?_|((refine idGd ?_); first|refine zA ?_|refine zB ?_|refine zC ?_|refine zD ?_|refine zE ?_|((refine idGdD ?_); first|refine zF ?_|refine zG ?_|refine zH (fun hg=>?_) fun hg=>?_|refine zI ?_|refine zJ ?_|refine zK (fun hg=>?_) fun hg=>?_)|((refine idGdN ?_); first|refine zL ?_|refine zM ?_|refine zN (fun hg=>?_) fun hg=>?_|refine zO ?_|refine zP ?_|refine zQ (fun hg=>?_) fun hg=>?_)|refine zR ?_|refine zS ?_|refine zT ?_|refine zU ?_|refine zV ?_|refine zW ?_|refine zX (fun hg=>?_) fun hg=>?_|refine zY ?_|refine zZ ?_|refine yA (fun hg=>?_) fun hg=>?_)|((refine idPick ?_); first|refine yB ?_|refine yC ?_|refine yD ?_|refine yE ?_|refine yF ?_|refine yG ?_|refine yH ?_|refine yI ?_|refine yJ ?_|refine yK ?_)|((refine idCond ?_); first|refine yL ?_|refine yM ?_|refine yN ?_|refine yO ?_|refine yP (fun hg=>?_) fun hg=>?_|refine yQ ?_|refine yR ?_|refine yS (fun hg=>?_) fun hg=>?_|refine yT ?_|refine yU ?_|refine yV (fun hg=>?_) fun hg=>?_|refine yW ?_|refine yX ?_|refine yY (fun hg=>?_) fun hg=>?_))
    | ((with_reducible refine idO ?_); (with_reducible refine oM_gen fun Kv hK=>?_); simp [go_sem, h0, h1, h2]; (try simp (disch := omega) only [wrapI64, wrapU8, wrapU32, wrapU64]); (first|refine hK _ _ ?_|refine And.intro (by omega) (hK _ _ ?_)); clear hK; clear Kv)))
    simpa [hx] using k
  · repeat (any_goals (first
    | (with_reducible first|refine pureM_in ?_|((refine idGd ?_); first|refine zA ?_|refine zB ?_|refine zC ?_|refine zD ?_|refine zE ?_|((refine idGdD ?_); first|refine zF ?_|refine zG ?_|refine zH (fun hg=>?_) fun hg=>?_|refine zI ?_|refine zJ ?_|refine zK (fun hg=>?_) fun hg=>?_)|((refine idGdN ?_); first|refine zL ?_|refine zM ?_|refine zN (fun hg=>?_) fun hg=>?_|refine zO ?_|refine zP ?_|refine zQ (fun hg=>?_) fun hg=>?_)|refine zR ?_|refine zS ?_|refine zT ?_|refine zU ?_|refine zV ?_|refine zW ?_|refine zX (fun hg=>?_) fun hg=>?_|refine zY ?_|refine zZ ?_|refine yA (fun hg=>?_) fun hg=>?_)|((refine idPick ?_); first|refine yB ?_|refine yC ?_|refine yD ?_|refine yE ?_|refine yF ?_|refine yG ?_|refine yH ?_|refine yI ?_|refine yJ ?_|refine yK ?_)|((refine idCond ?_); first|refine yL ?_|refine yM ?_|refine yN ?_|refine yO ?_|refine yP (fun hg=>?_) fun hg=>?_|refine yQ ?_|refine yR ?_|refine yS (fun hg=>?_) fun hg=>?_|refine yT ?_|refine yU ?_|refine yV (fun hg=>?_) fun hg=>?_|refine yW ?_|refine yX ?_|refine yY (fun hg=>?_) fun hg=>?_))
    | ((with_reducible refine idO ?_); (with_reducible refine oM_gen fun Kv hK=>?_); simp [go_sem, h0, h1, h2]; (try simp (disch := omega) only [wrapI64, wrapU8, wrapU32, wrapU64]); (first|refine hK _ _ ?_|refine And.intro (by omega) (hK _ _ ?_)); clear hK; clear Kv)))
    refine Element_ok g x hg hT (fun w' hw => ?_)
    have k := k w' hw
    repeat (any_goals (first
    | (with_reducible first|refine pureM_in ?_|((refine idGd ?_); first|refine zA ?_|refine zB ?_|refine zC ?_|refine zD ?_|refine zE ?_|((refine idGdD ?_); first|refine zF ?_|refine zG ?_|refine zH (fun hg=>?_) fun hg=>?_|refine zI ?_|refine zJ ?_|refine zK (fun hg=>?_) fun hg=>?_)|((refine idGdN ?_); first|refine zL ?_|refine zM ?_|refine zN (fun hg=>?_) fun hg=>?_|refine zO ?_|refine zP ?_|refine zQ (fun hg=>?_) fun hg=>?_)|refine zR ?_|refine zS ?_|refine zT ?_|refine zU ?_|refine zV ?_|refine zW ?_|refine zX (fun hg=>?_) fun hg=>?_|refine zY ?_|refine zZ ?_|refine yA (fun hg=>?_) fun hg=>?_)|((refine idPick ?_); first|refine yB ?_|refine yC ?_|refine yD ?_|refine yE ?_|refine yF ?_|refine yG ?_|refine yH ?_|refine yI ?_|refine yJ ?_|refine yK ?_)|((refine idCond ?_); first|refine yL ?_|refine yM ?_|refine yN ?_|refine yO ?_|refine yP (fun hg=>?_) fun hg=>?_|refine yQ ?_|refine yR ?_|refine yS (fun hg=>?_) fun hg=>?_|refine yT ?_|refine yU ?_|refine yV (fun hg=>?_) fun hg=>?_|refine yW ?_|refine yX ?_|refine yY (fun hg=>?_) fun hg=>?_))
    | ((with_reducible refine idO ?_); (with_reducible refine oM_gen fun Kv hK=>?_); simp [go_sem]; (try simp (disch := omega) only [wrapI64, wrapU8, wrapU32, wrapU64]); (first|refine hK _ _ ?_|refine And.intro (by omega) (hK _ _ ?_)); clear hK; clear Kv)))
    simpa [hx] using k
def VsJ (s : Stp) (L : List (Addr × Value)) (R : Bool) (w0 : World) (l : List Value) (w' : World) : Prop := Kn w0 L w' ∧ ∃ (v u : Value) (i : Nat), l = [v, u, .int .i64 (i : Int)] ∧ i ≤ s.bases.length ∧ (s.bases.drop i).all (otherM s.g) = R
def vsMu (n : Nat) (l : List Value) (_ : World) : Nat := match l with | [_, _, .int _ i] => n - i.toNat | _ => 0
theorem vsMu_eq (n : Nat) (x y : Value) (q : IntKind) (i : Int) (w : World) : vsMu n [x, y, .int q i] w = n - i.toNat := rfl
theorem ValidSetup_ok (s : Stp) {v : Value} (hs : SetR w s v) (k : ∀ w', Below w.heap.size w w' → K (.bool (validS s)) w') : callM Tryz.prog 135 #[stpV s v] K w := by
  apply sh_135_ok
  unfold sh_135
  obtain ⟨ad, c, rfl⟩ := hs.ints.isSlice
  refine box_kn (cs := stpC s (.slice ad s.bases.length c)) rfl (.start w) fun b W hk hb1 hb => ?_
  have k2 : ∀ w' r, validS s = r → Below w.heap.size w w' → K (.bool r) w' := fun w' r e hb => by rw [← e]; exact k w' hb
  have e0 : validS s = (validG s.g && decide (2 ≤ s.bases.length) && decide (s.bases.length ≤ 7) && s.bases.all (otherM s.g) && otherM s.g s.blind) := rfl
  have hl := hs.ints.len
  clear k
  repeat (any_goals (first
  | (with_reducible first|refine pureM_in ?_|((refine idGd ?_); first|refine zA ?_|refine zB ?_|refine zC ?_|refine zD ?_|refine zE ?_|((refine idGdD ?_); first|refine zF ?_|refine zG ?_|refine zH (fun hg=>?_) fun hg=>?_|refine zI ?_|refine zJ ?_|refine zK (fun hg=>?_) fun hg=>?_)|((refine idGdN ?_); first|refine zL ?_|refine zM ?_|refine zN (fun hg=>?_) fun hg=>?_|refine zO ?_|refine zP ?_|refine zQ (fun hg=>?_) fun hg=>?_)|refine zR ?_|refine zS ?_|refine zT ?_|refine zU ?_|refine zV ?_|refine zW ?_|refine zX (fun hg=>?_) fun hg=>?_|refine zY ?_|refine zZ ?_|refine yA (fun hg=>?_) fun hg=>?_)|((refine idPick ?_); first|refine yB ?_|refine yC ?_|refine yD ?_|refine yE ?_|refine yF ?_|refine yG ?_|refine yH ?_|refine yI ?_|refine yJ ?_|refine yK ?_)|((refine idCond ?_); first|refine yL ?_|refine yM ?_|refine yN ?_|refine yO ?_|refine yP (fun hg=>?_) fun hg=>?_|refine yQ ?_|refine yR ?_|refine yS (fun hg=>?_) fun hg=>?_|refine yT ?_|refine yU ?_|refine yV (fun hg=>?_) fun hg=>?_|refine yW ?_|refine yX ?_|refine yY (fun hg=>?_) fun hg=>?_))
  | ((with_reducible refine idO ?_); (with_reducible refine oM_gen fun Kv hK=>?_); simp [go_sem, hk.cells]; (try simp (disch := omega) only [wrapI64, wrapU8, wrapU32, wrapU64]); (first|refine hK _ _ ?_|refine And.intro (by omega) (hK _ _ ?_)); clear hK; clear Kv)))
  refine ValidGroup_ok s.g hs.grp (hs.db.next hk.below) (fun w1 h1 => ?_)
  have hk := hk.next h1
  clear h1 hb1
  cases hv : validG s.g with
  | false =>
    repeat (any_goals (first
    | (with_reducible first|refine pureM_in ?_|((refine idGd ?_); first|refine zA ?_|refine zB ?_|refine zC ?_|refine zD ?_|refine zE ?_|((refine idGdD ?_); first|refine zF ?_|refine zG ?_|refine zH (fun hg=>?_) fun hg=>?_|refine zI ?_|refine zJ ?_|refine zK (fun hg=>?_) fun hg=>?_)|((refine idGdN ?_); first|refine zL ?_|refine zM ?_|refine zN (fun hg=>?_) fun hg=>?_|refine zO ?_|refine zP ?_|refine zQ (fun hg=>?_) fun hg=>?_)|refine zR ?_|refine zS ?_|refine zT ?_|refine zU ?_|refine zV ?_|refine zW ?_|refine zX (fun hg=>?_) fun hg=>?_|refine zY ?_|refine zZ ?_|refine yA (fun hg=>?_) fun hg=>?_)|((refine idPick ?_); first|refine yB ?_|refine yC ?_|refine yD ?_|refine yE ?_|refine yF ?_|refine yG ?_|refine yH ?_|refine yI ?_|refine yJ ?_|refine yK ?_)|((refine idCond ?_); first|refine yL ?_|refine yM ?_|refine yN ?_|refine yO ?_|refine yP (fun hg=>?_) fun hg=>?_|refine yQ ?_|refine yR ?_|refine yS (fun hg=>?_) fun hg=>?_|refine yT ?_|refine yU ?_|refine yV (fun hg=>?_) fun hg=>?_|refine yW ?_|refine yX ?_|refine yY (fun hg=>?_) fun hg=>?_))
    | ((with_reducible refine idO ?_); (with_reducible refine oM_gen fun Kv hK=>?_); simp [go_sem]; (try simp (disch := omega) only [wrapI64, wrapU8, wrapU32, wrapU64]); (first|refine hK _ _ ?_|refine And.intro (by omega) (hK _ _ ?_)); clear hK; clear Kv)))
    exact k2 _ _ (by rw [e0, hv]; simp) hk.below
  | true =>
    repeat (any_goals (first
    | (with_reducible first|refine pureM_in ?_|((refine idGd ?_); first|refine zA ?_|refine zB ?_|refine zC ?_|refine zD ?_|refine zE ?_|((refine idGdD ?_); first|refine zF ?_|refine zG ?_|refine zH (fun hg=>?_) fun hg=>?_|refine zI ?_|refine zJ ?_|refine zK (fun hg=>?_) fun hg=>?_)|((refine idGdN ?_); first|refine zL ?_|refine zM ?_|refine zN (fun hg=>?_) fun hg=>?_|refine zO ?_|refine zP ?_|refine zQ (fun hg=>?_) fun hg=>?_)|refine zR ?_|refine zS ?_|refine zT ?_|refine zU ?_|refine zV ?_|refine zW ?_|refine zX (fun hg=>?_) fun hg=>?_|refine zY ?_|refine zZ ?_|refine yA (fun hg=>?_) fun hg=>?_)|((refine idPick ?_); first|refine yB ?_|refine yC ?_|refine yD ?_|refine yE ?_|refine yF ?_|refine yG ?_|refine yH ?_|refine yI ?_|refine yJ ?_|refine yK ?_)|((refine idCond ?_); first|refine yL ?_|refine yM ?_|refine yN ?_|refine yO ?_|refine yP (fun hg=>?_) fun hg=>?_|refine yQ ?_|refine yR ?_|refine yS (fun hg=>?_) fun hg=>?_|refine yT ?_|refine yU ?_|refine yV (fun hg=>?_) fun hg=>?_|refine yW ?_|refine yX ?_|refine yY (fun hg=>?_) fun hg=>?_))
    | ((with_reducible refine idO ?_); (with_reducible refine oM_gen fun Kv hK=>?_); simp [go_sem, hk.cells]; (try simp (disch := omega) only [wrapI64, wrapU8, wrapU32, wrapU64]); (first|refine hK _ _ ?_|refine And.intro (by omega) (hK _ _ ?_)); clear hK; clear Kv)))
    · exact k2 _ _ (by rw [e0]; simp; omega) hk.below
    · exact k2 _ _ (by rw [e0]; simp; omega) hk.below
    have e1 : validS s = (s.bases.all (otherM s.g) && otherM s.g s.blind) := by
      rw [e0, hv, decide_eq_true (by omega : 2 ≤ s.bases.length), decide_eq_true (by omega : s.bases.length ≤ 7)]; rfl
    refine ⟨VsJ s _ (s.bases.all (otherM s.g)) w, vsMu s.bases.length, ⟨hk, _, _, 0, rfl, by omega, rfl⟩, ?_⟩
    generalize s.bases.all (otherM s.g) = R at *
    rintro _ _ w2 ⟨hk, u1, u2, i, rfl, hi, hall⟩
    have hc := hk.cells
    by_cases hin : i = s.bases.length
    · rw [List.drop_of_length_le (by omega), List.all_nil] at hall
      subst hall
      repeat (any_goals (first
      | (with_reducible first|refine pureM_in ?_|((refine idGd ?_); first|refine zA ?_|refine zB ?_|refine zC ?_|refine zD ?_|refine zE ?_|((refine idGdD ?_); first|refine zF ?_|refine zG ?_|refine zH (fun hg=>?_) fun hg=>?_|refine zI ?_|refine zJ ?_|refine zK (fun hg=>?_) fun hg=>?_)|((refine idGdN ?_); first|refine zL ?_|refine zM ?_|refine zN (fun hg=>?_) fun hg=>?_|refine zO ?_|refine zP ?_|refine zQ (fun hg=>?_) fun hg=>?_)|refine zR ?_|refine zS ?_|refine zT ?_|refine zU ?_|refine zV ?_|refine zW ?_|refine zX (fun hg=>?_) fun hg=>?_|refine zY ?_|refine zZ ?_|refine yA (fun hg=>?_) fun hg=>?_)|((refine idPick ?_); first|refine yB ?_|refine yC ?_|refine yD ?_|refine yE ?_|refine yF ?_|refine yG ?_|refine yH ?_|refine yI ?_|refine yJ ?_|refine yK ?_)|((refine idCond ?_); first|refine yL ?_|refine yM ?_|refine yN ?_|refine yO ?_|refine yP (fun hg=>?_) fun hg=>?_|refine yQ ?_|refine yR ?_|refine yS (fun hg=>?_) fun hg=>?_|refine yT ?_|refine yU ?_|refine yV (fun hg=>?_) fun hg=>?_|refine yW ?_|refine yX ?_|refine yY (fun hg=>?_) fun hg=>?_))
      | ((with_reducible refine idO ?_); (with_reducible refine oM_gen fun Kv hK=>?_); simp [go_sem, hc]; (try simp (disch := omega) only [wrapI64, wrapU8, wrapU32, wrapU64]); (first|refine hK _ _ ?_|refine And.intro (by omega) (hK _ _ ?_)); clear hK; clear Kv)))
      refine oM_callv1 (by kernel_rfl) ?_
      refine other_ok s.g s.blind hs.grp (hs.db.next hk.below) hc.1 hc.2.1 hc.2.2.1 (fun w3 h3 => ?_)
      exact k2 _ _ (by rw [e1, Bool.true_and]) (hk.next h3).below
    · rw [List.drop_eq_getElem_cons (by omega), List.all_cons] at hall
      obtain ⟨b1, o1, rfl, hb1, ca, ra, _⟩ := hs.ints.at (i := i) (by omega)
      repeat (any_goals (first
      | (with_reducible first|refine pureM_in ?_|((refine idGd ?_); first|refine zA ?_|refine zB ?_|refine zC ?_|refine zD ?_|refine zE ?_|((refine idGdD ?_); first|refine zF ?_|refine zG ?_|refine zH (fun hg=>?_) fun hg=>?_|refine zI ?_|refine zJ ?_|refine zK (fun hg=>?_) fun hg=>?_)|((refine idGdN ?_); first|refine zL ?_|refine zM ?_|refine zN (fun hg=>?_) fun hg=>?_|refine zO ?_|refine zP ?_|refine zQ (fun hg=>?_) fun hg=>?_)|refine zR ?_|refine zS ?_|refine zT ?_|refine zU ?_|refine zV ?_|refine zW ?_|refine zX (fun hg=>?_) fun hg=>?_|refine zY ?_|refine zZ ?_|refine yA (fun hg=>?_) fun hg=>?_)|((refine idPick ?_); first|refine yB ?_|refine yC ?_|refine yD ?_|refine yE ?_|refine yF ?_|refine yG ?_|refine yH ?_|refine yI ?_|refine yJ ?_|refine yK ?_)|((refine idCond ?_); first|refine yL ?_|refine yM ?_|refine yN ?_|refine yO ?_|refine yP (fun hg=>?_) fun hg=>?_|refine yQ ?_|refine yR ?_|refine yS (fun hg=>?_) fun hg=>?_|refine yT ?_|refine yU ?_|refine yV (fun hg=>?_) fun hg=>?_|refine yW ?_|refine yX ?_|refine yY (fun hg=>?_) fun hg=>?_))
      | ((with_reducible refine idO ?_); (with_reducible refine oM_gen fun Kv hK=>?_); simp [go_sem, ca _ hk.below]; (try simp (disch := omega) only [wrapI64, wrapU8, wrapU32, wrapU64]); (first|refine hK _ _ ?_|refine And.intro (by omega) (hK _ _ ?_)); clear hK; clear Kv)))
      refine oM_callv1 (by kernel_rfl) ?_
      refine other_ok s.g _ hs.grp (hs.db.next hk.below) hc.1 hc.2.1 hc.2.2.1 (fun w3 h3 => ?_)
      cases ho : otherM s.g s.bases[i] with
      | false =>
        rw [ho, Bool.false_and] at hall
        subst hall
        repeat (any_goals (first
        | (with_reducible first|refine pureM_in ?_|((refine idGd ?_); first|refine zA ?_|refine zB ?_|refine zC ?_|refine zD ?_|refine zE ?_|((refine idGdD ?_); first|refine zF ?_|refine zG ?_|refine zH (fun hg=>?_) fun hg=>?_|refine zI ?_|refine zJ ?_|refine zK (fun hg=>?_) fun hg=>?_)|((refine idGdN ?_); first|refine zL ?_|refine zM ?_|refine zN (fun hg=>?_) fun hg=>?_|refine zO ?_|refine zP ?_|refine zQ (fun hg=>?_) fun hg=>?_)|refine zR ?_|refine zS ?_|refine zT ?_|refine zU ?_|refine zV ?_|refine zW ?_|refine zX (fun hg=>?_) fun hg=>?_|refine zY ?_|refine zZ ?_|refine yA (fun hg=>?_) fun hg=>?_)|((refine idPick ?_); first|refine yB ?_|refine yC ?_|refine yD ?_|refine yE ?_|refine yF ?_|refine yG ?_|refine yH ?_|refine yI ?_|refine yJ ?_|refine yK ?_)|((refine idCond ?_); first|refine yL ?_|refine yM ?_|refine yN ?_|refine yO ?_|refine yP (fun hg=>?_) fun hg=>?_|refine yQ ?_|refine yR ?_|refine yS (fun hg=>?_) fun hg=>?_|refine yT ?_|refine yU ?_|refine yV (fun hg=>?_) fun hg=>?_|refine yW ?_|refine yX ?_|refine yY (fun hg=>?_) fun hg=>?_))
        | ((with_reducible refine idO ?_); (with_reducible refine oM_gen fun Kv hK=>?_); simp [go_sem]; (try simp (disch := omega) only [wrapI64, wrapU8, wrapU32, wrapU64]); (first|refine hK _ _ ?_|refine And.intro (by omega) (hK _ _ ?_)); clear hK; clear Kv)))
        exact k2 _ _ (by rw [e1, Bool.false_and]) (hk.next h3).below
      | true =>
        rw [ho, Bool.true_and] at hall
        repeat (any_goals (first
        | (with_reducible first|refine pureM_in ?_|((refine idGd ?_); first|refine zA ?_|refine zB ?_|refine zC ?_|refine zD ?_|refine zE ?_|((refine idGdD ?_); first|refine zF ?_|refine zG ?_|refine zH (fun hg=>?_) fun hg=>?_|refine zI ?_|refine zJ ?_|refine zK (fun hg=>?_) fun hg=>?_)|((refine idGdN ?_); first|refine zL ?_|refine zM ?_|refine zN (fun hg=>?_) fun hg=>?_|refine zO ?_|refine zP ?_|refine zQ (fun hg=>?_) fun hg=>?_)|refine zR ?_|refine zS ?_|refine zT ?_|refine zU ?_|refine zV ?_|refine zW ?_|refine zX (fun hg=>?_) fun hg=>?_|refine zY ?_|refine zZ ?_|refine yA (fun hg=>?_) fun hg=>?_)|((refine idPick ?_); first|refine yB ?_|refine yC ?_|refine yD ?_|refine yE ?_|refine yF ?_|refine yG ?_|refine yH ?_|refine yI ?_|refine yJ ?_|refine yK ?_)|((refine idCond ?_); first|refine yL ?_|refine yM ?_|refine yN ?_|refine yO ?_|refine yP (fun hg=>?_) fun hg=>?_|refine yQ ?_|refine yR ?_|refine yS (fun hg=>?_) fun hg=>?_|refine yT ?_|refine yU ?_|refine yV (fun hg=>?_) fun hg=>?_|refine yW ?_|refine yX ?_|refine yY (fun hg=>?_) fun hg=>?_))
        | ((with_reducible refine idO ?_); (with_reducible refine oM_gen fun Kv hK=>?_); simp [go_sem]; (try simp (disch := omega) only [wrapI64, wrapU8, wrapU32, wrapU64]); (first|refine hK _ _ ?_|refine And.intro (by omega) (hK _ _ ?_)); clear hK; clear Kv)))
        refine ⟨⟨hk.next h3, _, _, i + 1, rfl, by omega, hall⟩, ?_⟩
        simp only [vsMu_eq]; omega
end
end Go.Proofs
--G
namespace Go.Proofs
open Go Go.Sh Go.RowKit FdSpec TkSpec
set_option linter.unusedSimpArgs false
set_option linter.unusedVariables false
set_option maxRecDepth 10000
section
variable {K : Value → World → Prop} {w w0 : World} {L : List (Addr × Value)}
theorem ints_alloc (w : World) (l : List Int) (T : TypeId) (c : Nat) (hr : ∀ n ∈ l, I64 n) (hl : l.length ≤ 4611686018427387904) : Ints (w.alloc (.cells (l.map (Value.int .i64)).toArray T)) (.slice (some ⟨w.heap.size, 0, none⟩) l.length c) l := by
  refine ⟨⟨_, c, rfl, by simp, ?_⟩, hr, hl⟩
  by_cases h0 : l = []
  · exact .inl h0
  · refine .inr ⟨_, 0, rfl, by simp, fun k x hk => ?_⟩
    rw [flat_int] at hk
    rw [Nat.zero_add]
    have := World.cell?_alloc_at (w := w) (l.map (Value.int .i64)).toArray T w.heap.size k rfl
    rw [this]
    simpa using hk
theorem mk1 {T : TypeId} (x : Int) (hx : I64 x) (k : ∀ v W, Below w.heap.size w W → Ints W v [x] → K v W) : oM Tryz.prog (.buildSlice 22 1 #[(0, .tmp 0)]) T [.int .i64 x] K w := by
  rw [oM_buildSlice1]
  have e : (Instr.buildSlice 22 1 #[(0, .int .i64 x)]).run Tryz.prog w = .ok (.slice (some ⟨w.heap.size, 0, none⟩) 1 1) (w.alloc (.cells #[.int .i64 x] 3)) := by kernel_rfl
  rw [e]
  exact k _ _ ((Below.refl _ w).alloc (Nat.le_refl _) _) (ints_alloc w [x] _ 1 (by simpa using hx) (by simp))
theorem mk2 {T : TypeId} (x y : Int) (hx : I64 x) (hy : I64 y) (k : ∀ v W, Below w.heap.size w W → Ints W v [x, y] → K v W) : oM Tryz.prog (.buildSlice 22 2 #[(0, .tmp 0), (1, .tmp 1)]) T [.int .i64 x, .int .i64 y] K w := by
  rw [oM_buildSlice2]
  have e : (Instr.buildSlice 22 2 #[(0, .int .i64 x), (1, .int .i64 y)]).run Tryz.prog w = .ok (.slice (some ⟨w.heap.size, 0, none⟩) 2 2) (w.alloc (.cells #[.int .i64 x, .int .i64 y] 3)) := by kernel_rfl
  rw [e]
  exact k _ _ ((Below.refl _ w).alloc (Nat.le_refl _) _) (ints_alloc w [x, y] _ 2 (by simp; exact ⟨hx, hy⟩) (by simp))
def IfJ (p : Int → Bool) (l : List Int) (R : Bool) (w0 : World) (vs : List Value) (w' : World) : Prop := Below w0.heap.size w0 w' ∧ ∃ (v u : Value) (i : Nat), vs = [v, u, .int .i64 (i : Int)] ∧ i ≤ l.length ∧ (l.drop i).any p = R
theorem IndexFunc_ok {v F : Value} {l : List Int} (p : Int → Bool) (hl : Ints w v l)
    (hF : ∀ (w' : World) (x : Int) (K' : Value → World → Prop) (T : TypeId), Below w.heap.size w w' → I64 x → (∀ w'', Below w'.heap.size w' w'' → K' (.bool (p x)) w'') → oM Tryz.prog (.call { callee := .value (.tmp 0), args := #[.tmp 1], argTypes := #[3] }) T [F, .int .i64 x] K' w')
    (k : ∀ w' (r : Int), Below w.heap.size w w' → decide (0 ≤ r) = l.any p → K (.int .i64 r) w') : callM Tryz.prog 160 #[v, F] K w := by
  apply sh_160_ok
  unfold sh_160
  obtain ⟨ad, c, rfl⟩ := hl.isSlice
  have hll := hl.len
  repeat (any_goals (first
  | (with_reducible first|refine pureM_in ?_|((refine idGd ?_); first|refine zA ?_|refine zB ?_|refine zC ?_|refine zD ?_|refine zE ?_|((refine idGdD ?_); first|refine zF ?_|refine zG ?_|refine zH (fun hg=>?_) fun hg=>?_|refine zI ?_|refine zJ ?_|refine zK (fun hg=>?_) fun hg=>?_)|((refine idGdN ?_); first|refine zL ?_|refine zM ?_|refine zN (fun hg=>?_) fun hg=>?_|refine zO ?_|refine zP ?_|refine zQ (fun hg=>?_) fun hg=>?_)|refine zR ?_|refine zS ?_|refine zT ?_|refine zU ?_|refine zV ?_|refine zW ?_|refine zX (fun hg=>?_) fun hg=>?_|refine zY ?_|refine zZ ?_|refine yA (fun hg=>?_) fun hg=>?_)|((refine idPick ?_); first|refine yB ?_|refine yC ?_|refine yD ?_|refine yE ?_|refine yF ?_|refine yG ?_|refine yH ?_|refine yI ?_|refine yJ ?_|refine yK ?_)|((refine idCond ?_); first|refine yL ?_|refine yM ?_|refine yN ?_|refine yO ?_|refine yP (fun hg=>?_) fun hg=>?_|refine yQ ?_|refine yR ?_|refine yS (fun hg=>?_) fun hg=>?_|refine yT ?_|refine yU ?_|refine yV (fun hg=>?_) fun hg=>?_|refine yW ?_|refine yX ?_|refine yY (fun hg=>?_) fun hg=>?_))
  | ((with_reducible refine idO ?_); (with_reducible refine oM_gen fun Kv hK=>?_); simp [go_sem]; (try simp (disch := omega) only [wrapI64, wrapU8, wrapU32, wrapU64]); (first|refine hK _ _ ?_|refine And.intro (by omega) (hK _ _ ?_)); clear hK; clear Kv)))
  refine ⟨IfJ p l (l.any p) w, vsMu l.length, ⟨Below.refl _ _, _, _, 0, rfl, by omega, rfl⟩, ?_⟩
  generalize l.any p = R at *
  rintro _ _ w1 ⟨h1, u1, u2, i, rfl, hi, ha⟩
  by_cases hin : i = l.length
  · rw [List.drop_of_length_le (by omega), List.any_nil] at ha
    repeat (any_goals (first
    | (with_reducible first|refine pureM_in ?_|((refine idGd ?_); first|refine zA ?_|refine zB ?_|refine zC ?_|refine zD ?_|refine zE ?_|((refine idGdD ?_); first|refine zF ?_|refine zG ?_|refine zH (fun hg=>?_) fun hg=>?_|refine zI ?_|refine zJ ?_|refine zK (fun hg=>?_) fun hg=>?_)|((refine idGdN ?_); first|refine zL ?_|refine zM ?_|refine zN (fun hg=>?_) fun hg=>?_|refine zO ?_|refine zP ?_|refine zQ (fun hg=>?_) fun hg=>?_)|refine zR ?_|refine zS ?_|refine zT ?_|refine zU ?_|refine zV ?_|refine zW ?_|refine zX (fun hg=>?_) fun hg=>?_|refine zY ?_|refine zZ ?_|refine yA (fun hg=>?_) fun hg=>?_)|((refine idPick ?_); first|refine yB ?_|refine yC ?_|refine yD ?_|refine yE ?_|refine yF ?_|refine yG ?_|refine yH ?_|refine yI ?_|refine yJ ?_|refine yK ?_)|((refine idCond ?_); first|refine yL ?_|refine yM ?_|refine yN ?_|refine yO ?_|refine yP (fun hg=>?_) fun hg=>?_|refine yQ ?_|refine yR ?_|refine yS (fun hg=>?_) fun hg=>?_|refine yT ?_|refine yU ?_|refine yV (fun hg=>?_) fun hg=>?_|refine yW ?_|refine yX ?_|refine yY (fun hg=>?_) fun hg=>?_))
    | ((with_reducible refine idO ?_); (with_reducible refine oM_gen fun Kv hK=>?_); simp [go_sem]; (try simp (disch := omega) only [wrapI64, wrapU8, wrapU32, wrapU64]); (first|refine hK _ _ ?_|refine And.intro (by omega) (hK _ _ ?_)); clear hK; clear Kv)))
    exact k _ _ h1 (by rw [← ha]; rfl)
  · rw [List.drop_eq_getElem_cons (by omega), List.any_cons] at ha
    obtain ⟨b1, o1, rfl, hb1, ca, ra, _⟩ := hl.at (i := i) (by omega)
    repeat (any_goals (first
    | (with_reducible first|refine pureM_in ?_|((refine idGd ?_); first|refine zA ?_|refine zB ?_|refine zC ?_|refine zD ?_|refine zE ?_|((refine idGdD ?_); first|refine zF ?_|refine zG ?_|refine zH (fun hg=>?_) fun hg=>?_|refine zI ?_|refine zJ ?_|refine zK (fun hg=>?_) fun hg=>?_)|((refine idGdN ?_); first|refine zL ?_|refine zM ?_|refine zN (fun hg=>?_) fun hg=>?_|refine zO ?_|refine zP ?_|refine zQ (fun hg=>?_) fun hg=>?_)|refine zR ?_|refine zS ?_|refine zT ?_|refine zU ?_|refine zV ?_|refine zW ?_|refine zX (fun hg=>?_) fun hg=>?_|refine zY ?_|refine zZ ?_|refine yA (fun hg=>?_) fun hg=>?_)|((refine idPick ?_); first|refine yB ?_|refine yC ?_|refine yD ?_|refine yE ?_|refine yF ?_|refine yG ?_|refine yH ?_|refine yI ?_|refine yJ ?_|refine yK ?_)|((refine idCond ?_); first|refine yL ?_|refine yM ?_|refine yN ?_|refine yO ?_|refine yP (fun hg=>?_) fun hg=>?_|refine yQ ?_|refine yR ?_|refine yS (fun hg=>?_) fun hg=>?_|refine yT ?_|refine yU ?_|refine yV (fun hg=>?_) fun hg=>?_|refine yW ?_|refine yX ?_|refine yY (fun hg=>?_) fun hg=>?_))
    | ((with_reducible refine idO ?_); (with_reducible refine oM_gen fun Kv hK=>?_); simp [go_sem, ca _ h1]; (try simp (disch := omega) only [wrapI64, wrapU8, wrapU32, wrapU64]); (first|refine hK _ _ ?_|refine And.intro (by omega) (hK _ _ ?_)); clear hK; clear Kv)))
    refine hF w1 _ _ _ h1 ra (fun w2 h2 => ?_)
    cases hp : p l[i] with
    | true =>
      rw [hp, Bool.true_or] at ha
      repeat (any_goals (first
      | (with_reducible first|refine pureM_in ?_|((refine idGd ?_); first|refine zA ?_|refine zB ?_|refine zC ?_|refine zD ?_|refine zE ?_|((refine idGdD ?_); first|refine zF ?_|refine zG ?_|refine zH (fun hg=>?_) fun hg=>?_|refine zI ?_|refine zJ ?_|refine zK (fun hg=>?_) fun hg=>?_)|((refine idGdN ?_); first|refine zL ?_|refine zM ?_|refine zN (fun hg=>?_) fun hg=>?_|refine zO ?_|refine zP ?_|refine zQ (fun hg=>?_) fun hg=>?_)|refine zR ?_|refine zS ?_|refine zT ?_|refine zU ?_|refine zV ?_|refine zW ?_|refine zX (fun hg=>?_) fun hg=>?_|refine zY ?_|refine zZ ?_|refine yA (fun hg=>?_) fun hg=>?_)|((refine idPick ?_); first|refine yB ?_|refine yC ?_|refine yD ?_|refine yE ?_|refine yF ?_|refine yG ?_|refine yH ?_|refine yI ?_|refine yJ ?_|refine yK ?_)|((refine idCond ?_); first|refine yL ?_|refine yM ?_|refine yN ?_|refine yO ?_|refine yP (fun hg=>?_) fun hg=>?_|refine yQ ?_|refine yR ?_|refine yS (fun hg=>?_) fun hg=>?_|refine yT ?_|refine yU ?_|refine yV (fun hg=>?_) fun hg=>?_|refine yW ?_|refine yX ?_|refine yY (fun hg=>?_) fun hg=>?_))
      | ((with_reducible refine idO ?_); (with_reducible refine oM_gen fun Kv hK=>?_); simp [go_sem]; (try simp (disch := omega) only [wrapI64, wrapU8, wrapU32, wrapU64]); (first|refine hK _ _ ?_|refine And.intro (by omega) (hK _ _ ?_)); clear hK; clear Kv)))
      exact k _ _ (h1.on h2) (by rw [← ha]; simp)
    | false =>
      rw [hp, Bool.false_or] at ha
      repeat (any_goals (first
      | (with_reducible first|refine pureM_in ?_|((refine idGd ?_); first|refine zA ?_|refine zB ?_|refine zC ?_|refine zD ?_|refine zE ?_|((refine idGdD ?_); first|refine zF ?_|refine zG ?_|refine zH (fun hg=>?_) fun hg=>?_|refine zI ?_|refine zJ ?_|refine zK (fun hg=>?_) fun hg=>?_)|((refine idGdN ?_); first|refine zL ?_|refine zM ?_|refine zN (fun hg=>?_) fun hg=>?_|refine zO ?_|refine zP ?_|refine zQ (fun hg=>?_) fun hg=>?_)|refine zR ?_|refine zS ?_|refine zT ?_|refine zU ?_|refine zV ?_|refine zW ?_|refine zX (fun hg=>?_) fun hg=>?_|refine zY ?_|refine zZ ?_|refine yA (fun hg=>?_) fun hg=>?_)|((refine idPick ?_); first|refine yB ?_|refine yC ?_|refine yD ?_|refine yE ?_|refine yF ?_|refine yG ?_|refine yH ?_|refine yI ?_|refine yJ ?_|refine yK ?_)|((refine idCond ?_); first|refine yL ?_|refine yM ?_|refine yN ?_|refine yO ?_|refine yP (fun hg=>?_) fun hg=>?_|refine yQ ?_|refine yR ?_|refine yS (fun hg=>?_) fun hg=>?_|refine yT ?_|refine yU ?_|refine yV (fun hg=>?_) fun hg=>?_|refine yW ?_|refine yX ?_|refine yY (fun hg=>?_) fun hg=>?_))
      | ((with_reducible refine idO ?_); (with_reducible refine oM_gen fun Kv hK=>?_); simp [go_sem]; (try simp (disch := omega) only [wrapI64, wrapU8, wrapU32, wrapU64]); (first|refine hK _ _ ?_|refine And.intro (by omega) (hK _ _ ?_)); clear hK; clear Kv)))
      refine ⟨⟨h1.on h2, _, _, i + 1, rfl, by omega, ha⟩, ?_⟩
      simp only [vsMu_eq]; omega
theorem ContainsFunc_ok {v F : Value} {l : List Int} (p : Int → Bool) (hl : Ints w v l)
    (hF : ∀ (w' : World) (x : Int) (K' : Value → World → Prop) (T : TypeId), Below w.heap.size w w' → I64 x → (∀ w'', Below w'.heap.size w' w'' → K' (.bool (p x)) w'') → oM Tryz.prog (.call { callee := .value (.tmp 0), args := #[.tmp 1], argTypes := #[3] }) T [F, .int .i64 x] K' w')
    (k : ∀ w', Below w.heap.size w w' → K (.bool (l.any p)) w') : callM Tryz.prog 113 #[v, F] K w := by
  apply sh_113_ok
  unfold sh_113
  refine IndexFunc_ok p hl hF (fun w' r hb hr => ?_)
  repeat (any_goals (first
  | (with_reducible first|refine pureM_in ?_|((refine idGd ?_); first|refine zA ?_|refine zB ?_|refine zC ?_|refine zD ?_|refine zE ?_|((refine idGdD ?_); first|refine zF ?_|refine zG ?_|refine zH (fun hg=>?_) fun hg=>?_|refine zI ?_|refine zJ ?_|refine zK (fun hg=>?_) fun hg=>?_)|((refine idGdN ?_); first|refine zL ?_|refine zM ?_|refine zN (fun hg=>?_) fun hg=>?_|refine zO ?_|refine zP ?_|refine zQ (fun hg=>?_) fun hg=>?_)|refine zR ?_|refine zS ?_|refine zT ?_|refine zU ?_|refine zV ?_|refine zW ?_|refine zX (fun hg=>?_) fun hg=>?_|refine zY ?_|refine zZ ?_|refine yA (fun hg=>?_) fun hg=>?_)|((refine idPick ?_); first|refine yB ?_|refine yC ?_|refine yD ?_|refine yE ?_|refine yF ?_|refine yG ?_|refine yH ?_|refine yI ?_|refine yJ ?_|refine yK ?_)|((refine idCond ?_); first|refine yL ?_|refine yM ?_|refine yN ?_|refine yO ?_|refine yP (fun hg=>?_) fun hg=>?_|refine yQ ?_|refine yR ?_|refine yS (fun hg=>?_) fun hg=>?_|refine yT ?_|refine yU ?_|refine yV (fun hg=>?_) fun hg=>?_|refine yW ?_|refine yX ?_|refine yY (fun hg=>?_) fun hg=>?_))
  | ((with_reducible refine idO ?_); (with_reducible refine oM_gen fun Kv hK=>?_); simp [go_sem]; (try simp (disch := omega) only [wrapI64, wrapU8, wrapU32, wrapU64]); (first|refine hK _ _ ?_|refine And.intro (by omega) (hK _ _ ?_)); clear hK; clear Kv)))
  rw [hr]
  exact k _ hb
theorem numsM_any (s : Stp) (least : Int) (l : List Int) : numsM s least l = !(l.any fun n => decide (n < least) || decide (s.g.Q ≤ n)) := by
  unfold numsM
  rw [List.not_any_eq_all_not]
  congr 1
  funext n
  by_cases h1 : n < least <;> by_cases h2 : s.g.Q ≤ n <;> simp [h1, h2] <;> omega
theorem elementsM_any (s : Stp) (l : List Int) : elementsM s l = !(l.any fun n => !elemG s.g n) := by
  unfold elementsM
  rw [List.not_any_eq_all_not]
  congr 1
  funext n
  simp
theorem numsF_ok (s : Stp) (least x : Int) {b d : Nat} (h0 : w.cell? ⟨b, 0, none⟩ = some (.int .i64 least)) (h1 : w.cell? ⟨d, 1, none⟩ = some (.int .i64 s.g.Q)) (h : K (.bool (decide (x < least) || decide (s.g.Q ≤ x))) w) :
    callM Tryz.prog 140 #[.int .i64 x, .pointer (some ⟨b, 0, none⟩), .pointer (some ⟨d, 0, none⟩)] K w := by
  apply sh_140_ok
  unfold sh_140
  by_cases hx : x < least
  · repeat (any_goals (first
    | (with_reducible first|refine pureM_in ?_|((refine idGd ?_); first|refine zA ?_|refine zB ?_|refine zC ?_|refine zD ?_|refine zE ?_|((refine idGdD ?_); first|refine zF ?_|refine zG ?_|refine zH (fun hg=>?_) fun hg=>?_|refine zI ?_|refine zJ ?_|refine zK (fun hg=>?_) fun hg=>?_)|((refine idGdN ?_); first|refine zL ?_|refine zM ?_|refine zN (fun hg=>?_) fun hg=>?_|refine zO ?_|refine zP ?_|refine zQ (fun hg=>?_) fun hg=>?_)|refine zR ?_|refine zS ?_|refine zT ?_|refine zU ?_|refine zV ?_|refine zW ?_|refine zX (fun hg=>?_) fun hg=>?_|refine zY ?_|refine zZ ?_|refine yA (fun hg=>?_) fun hg=>?_)|((refine idPick ?_); first|refine yB ?_|refine yC ?_|refine yD ?_|refine yE ?_|refine yF ?_|refine yG ?_|refine yH ?_|refine yI ?_|refine yJ ?_|refine yK ?_)|((refine idCond ?_); first|refine yL ?_|refine yM ?_|refine yN ?_|refine yO ?_|refine yP (fun hg=>?_) fun hg=>?_|refine yQ ?_|refine yR ?_|refine yS (fun hg=>?_) fun hg=>?_|refine yT ?_|refine yU ?_|refine yV (fun hg=>?_) fun hg=>?_|refine yW ?_|refine yX ?_|refine yY (fun hg=>?_) fun hg=>?_))
    | ((with_reducible refine idO ?_); (with_reducible refine oM_gen fun Kv hK=>?_); simp [go_sem, h0, h1]; (try simp (disch := omega) only [wrapI64, wrapU8, wrapU32, wrapU64]); (first|refine hK _ _ ?_|refine And.intro (by omega) (hK _ _ ?_)); clear hK; clear Kv)))
    simpa [hx] using h
  · repeat (any_goals (first
    | (with_reducible first|refine pureM_in ?_|((refine idGd ?_); first|refine zA ?_|refine zB ?_|refine zC ?_|refine zD ?_|refine zE ?_|((refine idGdD ?_); first|refine zF ?_|refine zG ?_|refine zH (fun hg=>?_) fun hg=>?_|refine zI ?_|refine zJ ?_|refine zK (fun hg=>?_) fun hg=>?_)|((refine idGdN ?_); first|refine zL ?_|refine zM ?_|refine zN (fun hg=>?_) fun hg=>?_|refine zO ?_|refine zP ?_|refine zQ (fun hg=>?_) fun hg=>?_)|refine zR ?_|refine zS ?_|refine zT ?_|refine zU ?_|refine zV ?_|refine zW ?_|refine zX (fun hg=>?_) fun hg=>?_|refine zY ?_|refine zZ ?_|refine yA (fun hg=>?_) fun hg=>?_)|((refine idPick ?_); first|refine yB ?_|refine yC ?_|refine yD ?_|refine yE ?_|refine yF ?_|refine yG ?_|refine yH ?_|refine yI ?_|refine yJ ?_|refine yK ?_)|((refine idCond ?_); first|refine yL ?_|refine yM ?_|refine yN ?_|refine yO ?_|refine yP (fun hg=>?_) fun hg=>?_|refine yQ ?_|refine yR ?_|refine yS (fun hg=>?_) fun hg=>?_|refine yT ?_|refine yU ?_|refine yV (fun hg=>?_) fun hg=>?_|refine yW ?_|refine yX ?_|refine yY (fun hg=>?_) fun hg=>?_))
    | ((with_reducible refine idO ?_); (with_reducible refine oM_gen fun Kv hK=>?_); simp [go_sem, h0, h1]; (try simp (disch := omega) only [wrapI64, wrapU8, wrapU32, wrapU64]); (first|refine hK _ _ ?_|refine And.intro (by omega) (hK _ _ ?_)); clear hK; clear Kv)))
    simpa [hx] using h
theorem nums_ok (s : Stp) (least : Int) {dv v : Value} {l : List Int} (hs : SetR w s dv) (hl : Ints w v l) (k : ∀ w', Below w.heap.size w w' → K (.bool (numsM s least l)) w') : callM Tryz.prog 72 #[stpV s dv, .int .i64 least, v] K w := by
  apply sh_72_ok
  unfold sh_72
  obtain ⟨ad, c, rfl⟩ := hs.ints.isSlice
  refine box_kn (cs := stpC s (.slice ad s.bases.length c)) rfl (.start w) fun b W hk hb1 hb => ?_
  refine box_kn (cs := [.int .i64 least]) rfl hk fun b2 W2 hk hb2 hbb => ?_
  repeat (any_goals (first
  | (with_reducible first|refine pureM_in ?_|((refine idGd ?_); first|refine zA ?_|refine zB ?_|refine zC ?_|refine zD ?_|refine zE ?_|((refine idGdD ?_); first|refine zF ?_|refine zG ?_|refine zH (fun hg=>?_) fun hg=>?_|refine zI ?_|refine zJ ?_|refine zK (fun hg=>?_) fun hg=>?_)|((refine idGdN ?_); first|refine zL ?_|refine zM ?_|refine zN (fun hg=>?_) fun hg=>?_|refine zO ?_|refine zP ?_|refine zQ (fun hg=>?_) fun hg=>?_)|refine zR ?_|refine zS ?_|refine zT ?_|refine zU ?_|refine zV ?_|refine zW ?_|refine zX (fun hg=>?_) fun hg=>?_|refine zY ?_|refine zZ ?_|refine yA (fun hg=>?_) fun hg=>?_)|((refine idPick ?_); first|refine yB ?_|refine yC ?_|refine yD ?_|refine yE ?_|refine yF ?_|refine yG ?_|refine yH ?_|refine yI ?_|refine yJ ?_|refine yK ?_)|((refine idCond ?_); first|refine yL ?_|refine yM ?_|refine yN ?_|refine yO ?_|refine yP (fun hg=>?_) fun hg=>?_|refine yQ ?_|refine yR ?_|refine yS (fun hg=>?_) fun hg=>?_|refine yT ?_|refine yU ?_|refine yV (fun hg=>?_) fun hg=>?_|refine yW ?_|refine yX ?_|refine yY (fun hg=>?_) fun hg=>?_))
  | ((with_reducible refine idO ?_); (with_reducible refine oM_gen fun Kv hK=>?_); simp [go_sem]; (try simp (disch := omega) only [wrapI64, wrapU8, wrapU32, wrapU64]); (first|refine hK _ _ ?_|refine And.intro (by omega) (hK _ _ ?_)); clear hK; clear Kv)))
  refine ContainsFunc_ok (fun n => decide (n < least) || decide (s.g.Q ≤ n)) (hl.next hk.below) ?_ ?_
  · intro w' x K' T hb _ h'
    refine oM_callv1 (by kernel_rfl) ?_
    have hk := (hk.next hb).cells
    exact numsF_ok s least x hk.1 hk.2.2.1 (h' _ (Below.refl _ _))
  · intro w' hb
    repeat (any_goals (first
    | (with_reducible first|refine pureM_in ?_|((refine idGd ?_); first|refine zA ?_|refine zB ?_|refine zC ?_|refine zD ?_|refine zE ?_|((refine idGdD ?_); first|refine zF ?_|refine zG ?_|refine zH (fun hg=>?_) fun hg=>?_|refine zI ?_|refine zJ ?_|refine zK (fun hg=>?_) fun hg=>?_)|((refine idGdN ?_); first|refine zL ?_|refine zM ?_|refine zN (fun hg=>?_) fun hg=>?_|refine zO ?_|refine zP ?_|refine zQ (fun hg=>?_) fun hg=>?_)|refine zR ?_|refine zS ?_|refine zT ?_|refine zU ?_|refine zV ?_|refine zW ?_|refine zX (fun hg=>?_) fun hg=>?_|refine zY ?_|refine zZ ?_|refine yA (fun hg=>?_) fun hg=>?_)|((refine idPick ?_); first|refine yB ?_|refine yC ?_|refine yD ?_|refine yE ?_|refine yF ?_|refine yG ?_|refine yH ?_|refine yI ?_|refine yJ ?_|refine yK ?_)|((refine idCond ?_); first|refine yL ?_|refine yM ?_|refine yN ?_|refine yO ?_|refine yP (fun hg=>?_) fun hg=>?_|refine yQ ?_|refine yR ?_|refine yS (fun hg=>?_) fun hg=>?_|refine yT ?_|refine yU ?_|refine yV (fun hg=>?_) fun hg=>?_|refine yW ?_|refine yX ?_|refine yY (fun hg=>?_) fun hg=>?_))
    | ((with_reducible refine idO ?_); (with_reducible refine oM_gen fun Kv hK=>?_); simp [go_sem]; (try simp (disch := omega) only [wrapI64, wrapU8, wrapU32, wrapU64]); (first|refine hK _ _ ?_|refine And.intro (by omega) (hK _ _ ?_)); clear hK; clear Kv)))
    rw [← numsM_any]
    exact k _ (hk.next hb).below
theorem elemF_ok (s : Stp) (x : Int) {d : Nat} (hg : GrpR s.g) (hT : DbT w) (h0 : w.cell? ⟨d, 0, none⟩ = some (.int .i64 s.g.P)) (h1 : w.cell? ⟨d, 1, none⟩ = some (.int .i64 s.g.Q)) (h2 : w.cell? ⟨d, 2, none⟩ = some (.int .i64 s.g.G)) (k : ∀ w', Below w.heap.size w w' → K (.bool (!elemG s.g x)) w') :
    callM Tryz.prog 185 #[.int .i64 x, .pointer (some ⟨d, 0, none⟩)] K w := by
  apply sh_185_ok
  unfold sh_185
  repeat (any_goals (first
  | (with_reducible first|refine pureM_in ?_|((refine idGd ?_); first|refine zA ?_|refine zB ?_|refine zC ?_|refine zD ?_|refine zE ?_|((refine idGdD ?_); first|refine zF ?_|refine zG ?_|refine zH (fun hg=>?_) fun hg=>?_|refine zI ?_|refine zJ ?_|refine zK (fun hg=>?_) fun hg=>?_)|((refine idGdN ?_); first|refine zL ?_|refine zM ?_|refine zN (fun hg=>?_) fun hg=>?_|refine zO ?_|refine zP ?_|refine zQ (fun hg=>?_) fun hg=>?_)|refine zR ?_|refine zS ?_|refine zT ?_|refine zU ?_|refine zV ?_|refine zW ?_|refine zX (fun hg=>?_) fun hg=>?_|refine zY ?_|refine zZ ?_|refine yA (fun hg=>?_) fun hg=>?_)|((refine idPick ?_); first|refine yB ?_|refine yC ?_|refine yD ?_|refine yE ?_|refine yF ?_|refine yG ?_|refine yH ?_|refine yI ?_|refine yJ ?_|refine yK ?_)|((refine idCond ?_); first|refine yL ?_|refine yM ?_|refine yN ?_|refine yO ?_|refine yP (fun hg=>?_) fun hg=>?_|refine yQ ?_|refine yR ?_|refine yS (fun hg=>?_) fun hg=>?_|refine yT ?_|refine yU ?_|refine yV (fun hg=>?_) fun hg=>?_|refine yW ?_|refine yX ?_|refine yY (fun hg=>?_) fun hg=>?_))
  | ((with_reducible refine idO ?_); (with_reducible refine oM_gen fun Kv hK=>?_); simp [go_sem, h0, h1, h2]; (try simp (disch := omega) only [wrapI64, wrapU8, wrapU32, wrapU64]); (first|refine hK _ _ ?_|refine And.intro (by omega) (hK _ _ ?_)); clear hK; clear Kv)))
  refine Element_ok s.g x hg hT (fun w' hb => ?_)
  repeat (any_goals (first
  | (with_reducible first|refine pureM_in ?_|((refine idGd ?_); first|refine zA ?_|refine zB ?_|refine zC ?_|refine zD ?_|refine zE ?_|((refine idGdD ?_); first|refine zF ?_|refine zG ?_|refine zH (fun hg=>?_) fun hg=>?_|refine zI ?_|refine zJ ?_|refine zK (fun hg=>?_) fun hg=>?_)|((refine idGdN ?_); first|refine zL ?_|refine zM ?_|refine zN (fun hg=>?_) fun hg=>?_|refine zO ?_|refine zP ?_|refine zQ (fun hg=>?_) fun hg=>?_)|refine zR ?_|refine zS ?_|refine zT ?_|refine zU ?_|refine zV ?_|refine zW ?_|refine zX (fun hg=>?_) fun hg=>?_|refine zY ?_|refine zZ ?_|refine yA (fun hg=>?_) fun hg=>?_)|((refine idPick ?_); first|refine yB ?_|refine yC ?_|refine yD ?_|refine yE ?_|refine yF ?_|refine yG ?_|refine yH ?_|refine yI ?_|refine yJ ?_|refine yK ?_)|((refine idCond ?_); first|refine yL ?_|refine yM ?_|refine yN ?_|refine yO ?_|refine yP (fun hg=>?_) fun hg=>?_|refine yQ ?_|refine yR ?_|refine yS (fun hg=>?_) fun hg=>?_|refine yT ?_|refine yU ?_|refine yV (fun hg=>?_) fun hg=>?_|refine yW ?_|refine yX ?_|refine yY (fun hg=>?_) fun hg=>?_))
  | ((with_reducible refine idO ?_); (with_reducible refine oM_gen fun Kv hK=>?_); simp [go_sem]; (try simp (disch := omega) only [wrapI64, wrapU8, wrapU32, wrapU64]); (first|refine hK _ _ ?_|refine And.intro (by omega) (hK _ _ ?_)); clear hK; clear Kv)))
  exact k _ hb
theorem elements_ok (s : Stp) {dv v : Value} {l : List Int} (hs : SetR w s dv) (hl : Ints w v l) (k : ∀ w', Below w.heap.size w w' → K (.bool (elementsM s l)) w') : callM Tryz.prog 146 #[stpV s dv, v] K w := by
  apply sh_146_ok
  unfold sh_146
  obtain ⟨ad, c, rfl⟩ := hs.ints.isSlice
  refine box_kn (cs := stpC s (.slice ad s.bases.length c)) rfl (.start w) fun b W hk hb1 hb => ?_
  repeat (any_goals (first
  | (with_reducible first|refine pureM_in ?_|((refine idGd ?_); first|refine zA ?_|refine zB ?_|refine zC ?_|refine zD ?_|refine zE ?_|((refine idGdD ?_); first|refine zF ?_|refine zG ?_|refine zH (fun hg=>?_) fun hg=>?_|refine zI ?_|refine zJ ?_|refine zK (fun hg=>?_) fun hg=>?_)|((refine idGdN ?_); first|refine zL ?_|refine zM ?_|refine zN (fun hg=>?_) fun hg=>?_|refine zO ?_|refine zP ?_|refine zQ (fun hg=>?_) fun hg=>?_)|refine zR ?_|refine zS ?_|refine zT ?_|refine zU ?_|refine zV ?_|refine zW ?_|refine zX (fun hg=>?_) fun hg=>?_|refine zY ?_|refine zZ ?_|refine yA (fun hg=>?_) fun hg=>?_)|((refine idPick ?_); first|refine yB ?_|refine yC ?_|refine yD ?_|refine yE ?_|refine yF ?_|refine yG ?_|refine yH ?_|refine yI ?_|refine yJ ?_|refine yK ?_)|((refine idCond ?_); first|refine yL ?_|refine yM ?_|refine yN ?_|refine yO ?_|refine yP (fun hg=>?_) fun hg=>?_|refine yQ ?_|refine yR ?_|refine yS (fun hg=>?_) fun hg=>?_|refine yT ?_|refine yU ?_|refine yV (fun hg=>?_) fun hg=>?_|refine yW ?_|refine yX ?_|refine yY (fun hg=>?_) fun hg=>?_))
  | ((with_reducible refine idO ?_); (with_reducible refine oM_gen fun Kv hK=>?_); simp [go_sem]; (try simp (disch := omega) only [wrapI64, wrapU8, wrapU32, wrapU64]); (first|refine hK _ _ ?_|refine And.intro (by omega) (hK _ _ ?_)); clear hK; clear Kv)))
  refine ContainsFunc_ok (fun n => !elemG s.g n) (hl.next hk.below) ?_ ?_
  · intro w' x K' T hb _ h'
    refine oM_callv1 (by kernel_rfl) ?_
    have hk := hk.next hb
    have hc := hk.cells
    exact elemF_ok s x hs.grp (hs.db.next hk.below) hc.1 hc.2.1 hc.2.2.1 h'
  · intro w' hb
    repeat (any_goals (first
    | (with_reducible first|refine pureM_in ?_|((refine idGd ?_); first|refine zA ?_|refine zB ?_|refine zC ?_|refine zD ?_|refine zE ?_|((refine idGdD ?_); first|refine zF ?_|refine zG ?_|refine zH (fun hg=>?_) fun hg=>?_|refine zI ?_|refine zJ ?_|refine zK (fun hg=>?_) fun hg=>?_)|((refine idGdN ?_); first|refine zL ?_|refine zM ?_|refine zN (fun hg=>?_) fun hg=>?_|refine zO ?_|refine zP ?_|refine zQ (fun hg=>?_) fun hg=>?_)|refine zR ?_|refine zS ?_|refine zT ?_|refine zU ?_|refine zV ?_|refine zW ?_|refine zX (fun hg=>?_) fun hg=>?_|refine zY ?_|refine zZ ?_|refine yA (fun hg=>?_) fun hg=>?_)|((refine idPick ?_); first|refine yB ?_|refine yC ?_|refine yD ?_|refine yE ?_|refine yF ?_|refine yG ?_|refine yH ?_|refine yI ?_|refine yJ ?_|refine yK ?_)|((refine idCond ?_); first|refine yL ?_|refine yM ?_|refine yN ?_|refine yO ?_|refine yP (fun hg=>?_) fun hg=>?_|refine yQ ?_|refine yR ?_|refine yS (fun hg=>?_) fun hg=>?_|refine yT ?_|refine yU ?_|refine yV (fun hg=>?_) fun hg=>?_|refine yW ?_|refine yX ?_|refine yY (fun hg=>?_) fun hg=>?_))
    | ((with_reducible refine idO ?_); (with_reducible refine oM_gen fun Kv hK=>?_); simp [go_sem]; (try simp (disch := omega) only [wrapI64, wrapU8, wrapU32, wrapU64]); (first|refine hK _ _ ?_|refine And.intro (by omega) (hK _ _ ?_)); clear hK; clear Kv)))
    rw [← elementsM_any]
    exact k _ (hk.next hb).below
theorem key_ok (s : Stp) (x : Int) {dv : Value} (hx : I64 x) (hs : SetR w s dv) (k : ∀ w', Below w.heap.size w w' → K (.bool (keyM s x)) w') : callM Tryz.prog 125 #[stpV s dv, .int .i64 x] K w := by
  apply sh_125_ok
  unfold sh_125
  obtain ⟨ad, c, rfl⟩ := hs.ints.isSlice
  refine box_kn (cs := stpC s (.slice ad s.bases.length c)) rfl (.start w) fun b W hk hb1 hb => ?_
  unfold keyM at k
  by_cases hx1 : x = 1
  · have k := k _ hk.below
    repeat (any_goals (first
    | (with_reducible first|refine pureM_in ?_|((refine idGd ?_); first|refine zA ?_|refine zB ?_|refine zC ?_|refine zD ?_|refine zE ?_|((refine idGdD ?_); first|refine zF ?_|refine zG ?_|refine zH (fun hg=>?_) fun hg=>?_|refine zI ?_|refine zJ ?_|refine zK (fun hg=>?_) fun hg=>?_)|((refine idGdN ?_); first|refine zL ?_|refine zM ?_|refine zN (fun hg=>?_) fun hg=>?_|refine zO ?_|refine zP ?_|refine zQ (fun hg=>?_) fun hg=>?_)|refine zR ?_|refine zS ?_|refine zT ?_|refine zU ?_|refine zV ?_|refine zW ?_|refine zX (fun hg=>?_) fun hg=>?_|refine zY ?_|refine zZ ?_|refine yA (fun hg=>?_) fun hg=>?_)|((refine idPick ?_); first|refine yB ?_|refine yC ?_|refine yD ?_|refine yE ?_|refine yF ?_|refine yG ?_|refine yH ?_|refine yI ?_|refine yJ ?_|refine yK ?_)|((refine idCond ?_); first|refine yL ?_|refine yM ?_|refine yN ?_|refine yO ?_|refine yP (fun hg=>?_) fun hg=>?_|refine yQ ?_|refine yR ?_|refine yS (fun hg=>?_) fun hg=>?_|refine yT ?_|refine yU ?_|refine yV (fun hg=>?_) fun hg=>?_|refine yW ?_|refine yX ?_|refine yY (fun hg=>?_) fun hg=>?_))
    | ((with_reducible refine idO ?_); (with_reducible refine oM_gen fun Kv hK=>?_); simp [go_sem]; (try simp (disch := omega) only [wrapI64, wrapU8, wrapU32, wrapU64]); (first|refine hK _ _ ?_|refine And.intro (by omega) (hK _ _ ?_)); clear hK; clear Kv)))
    simpa [hx1] using k
  · repeat (any_goals (first
    | ((with_reducible refine mk1 x hx ?_); intro v W2 hb2 hi)
    | (with_reducible first|refine pureM_in ?_|((refine idGd ?_); first|refine zA ?_|refine zB ?_|refine zC ?_|refine zD ?_|refine zE ?_|((refine idGdD ?_); first|refine zF ?_|refine zG ?_|refine zH (fun hg=>?_) fun hg=>?_|refine zI ?_|refine zJ ?_|refine zK (fun hg=>?_) fun hg=>?_)|((refine idGdN ?_); first|refine zL ?_|refine zM ?_|refine zN (fun hg=>?_) fun hg=>?_|refine zO ?_|refine zP ?_|refine zQ (fun hg=>?_) fun hg=>?_)|refine zR ?_|refine zS ?_|refine zT ?_|refine zU ?_|refine zV ?_|refine zW ?_|refine zX (fun hg=>?_) fun hg=>?_|refine zY ?_|refine zZ ?_|refine yA (fun hg=>?_) fun hg=>?_)|((refine idPick ?_); first|refine yB ?_|refine yC ?_|refine yD ?_|refine yE ?_|refine yF ?_|refine yG ?_|refine yH ?_|refine yI ?_|refine yJ ?_|refine yK ?_)|((refine idCond ?_); first|refine yL ?_|refine yM ?_|refine yN ?_|refine yO ?_|refine yP (fun hg=>?_) fun hg=>?_|refine yQ ?_|refine yR ?_|refine yS (fun hg=>?_) fun hg=>?_|refine yT ?_|refine yU ?_|refine yV (fun hg=>?_) fun hg=>?_|refine yW ?_|refine yX ?_|refine yY (fun hg=>?_) fun hg=>?_))
    | ((with_reducible refine idO ?_); (with_reducible refine oM_gen fun Kv hK=>?_); simp [go_sem, hk.cells]; (try simp (disch := omega) only [wrapI64, wrapU8, wrapU32, wrapU64]); (first|refine hK _ _ ?_|refine And.intro (by omega) (hK _ _ ?_)); clear hK; clear Kv)))
    have hk := hk.next hb2
    refine elements_ok s (hs.next hk.below) hi (fun w3 h3 => ?_)
    have k := k _ (hk.next h3).below
    repeat (any_goals (first
    | (with_reducible first|refine pureM_in ?_|((refine idGd ?_); first|refine zA ?_|refine zB ?_|refine zC ?_|refine zD ?_|refine zE ?_|((refine idGdD ?_); first|refine zF ?_|refine zG ?_|refine zH (fun hg=>?_) fun hg=>?_|refine zI ?_|refine zJ ?_|refine zK (fun hg=>?_) fun hg=>?_)|((refine idGdN ?_); first|refine zL ?_|refine zM ?_|refine zN (fun hg=>?_) fun hg=>?_|refine zO ?_|refine zP ?_|refine zQ (fun hg=>?_) fun hg=>?_)|refine zR ?_|refine zS ?_|refine zT ?_|refine zU ?_|refine zV ?_|refine zW ?_|refine zX (fun hg=>?_) fun hg=>?_|refine zY ?_|refine zZ ?_|refine yA (fun hg=>?_) fun hg=>?_)|((refine idPick ?_); first|refine yB ?_|refine yC ?_|refine yD ?_|refine yE ?_|refine yF ?_|refine yG ?_|refine yH ?_|refine yI ?_|refine yJ ?_|refine yK ?_)|((refine idCond ?_); first|refine yL ?_|refine yM ?_|refine yN ?_|refine yO ?_|refine yP (fun hg=>?_) fun hg=>?_|refine yQ ?_|refine yR ?_|refine yS (fun hg=>?_) fun hg=>?_|refine yT ?_|refine yU ?_|refine yV (fun hg=>?_) fun hg=>?_|refine yW ?_|refine yX ?_|refine yY (fun hg=>?_) fun hg=>?_))
    | ((with_reducible refine idO ?_); (with_reducible refine oM_gen fun Kv hK=>?_); simp [go_sem]; (try simp (disch := omega) only [wrapI64, wrapU8, wrapU32, wrapU64]); (first|refine hK _ _ ?_|refine And.intro (by omega) (hK _ _ ?_)); clear hK; clear Kv)))
    simpa [hx1] using k
theorem tpower_ok (s : Stp) (x n : Int) {dv : Value} (hs : SetR w s dv) (k : ∀ w', Below w.heap.size w w' → K (.int .i64 (powerG s.g x n)) w') : callM Tryz.prog 76 #[stpV s dv, .int .i64 x, .int .i64 n] K w := by
  apply sh_76_ok
  unfold sh_76
  obtain ⟨ad, c, rfl⟩ := hs.ints.isSlice
  refine box_kn (cs := stpC s (.slice ad s.bases.length c)) rfl (.start w) fun b W hk hb1 hb => ?_
  repeat (any_goals (first
  | (with_reducible first|refine pureM_in ?_|((refine idGd ?_); first|refine zA ?_|refine zB ?_|refine zC ?_|refine zD ?_|refine zE ?_|((refine idGdD ?_); first|refine zF ?_|refine zG ?_|refine zH (fun hg=>?_) fun hg=>?_|refine zI ?_|refine zJ ?_|refine zK (fun hg=>?_) fun hg=>?_)|((refine idGdN ?_); first|refine zL ?_|refine zM ?_|refine zN (fun hg=>?_) fun hg=>?_|refine zO ?_|refine zP ?_|refine zQ (fun hg=>?_) fun hg=>?_)|refine zR ?_|refine zS ?_|refine zT ?_|refine zU ?_|refine zV ?_|refine zW ?_|refine zX (fun hg=>?_) fun hg=>?_|refine zY ?_|refine zZ ?_|refine yA (fun hg=>?_) fun hg=>?_)|((refine idPick ?_); first|refine yB ?_|refine yC ?_|refine yD ?_|refine yE ?_|refine yF ?_|refine yG ?_|refine yH ?_|refine yI ?_|refine yJ ?_|refine yK ?_)|((refine idCond ?_); first|refine yL ?_|refine yM ?_|refine yN ?_|refine yO ?_|refine yP (fun hg=>?_) fun hg=>?_|refine yQ ?_|refine yR ?_|refine yS (fun hg=>?_) fun hg=>?_|refine yT ?_|refine yU ?_|refine yV (fun hg=>?_) fun hg=>?_|refine yW ?_|refine yX ?_|refine yY (fun hg=>?_) fun hg=>?_))
  | ((with_reducible refine idO ?_); (with_reducible refine oM_gen fun Kv hK=>?_); simp [go_sem, hk.cells]; (try simp (disch := omega) only [wrapI64, wrapU8, wrapU32, wrapU64]); (first|refine hK _ _ ?_|refine And.intro (by omega) (hK _ _ ?_)); clear hK; clear Kv)))
  refine Power_ok s.g x n (fun w2 h2 => ?_)
  exact k _ (hk.next h2).below
theorem generated_ok (s : Stp) (n : Int) {dv : Value} (hs : SetR w s dv) (k : ∀ w', Below w.heap.size w w' → K (.int .i64 (genM s n)) w') : callM Tryz.prog 77 #[stpV s dv, .int .i64 n] K w := by
  apply sh_77_ok
  unfold sh_77
  obtain ⟨ad, c, rfl⟩ := hs.ints.isSlice
  refine box_kn (cs := stpC s (.slice ad s.bases.length c)) rfl (.start w) fun b W hk hb1 hb => ?_
  repeat (any_goals (first
  | (with_reducible first|refine pureM_in ?_|((refine idGd ?_); first|refine zA ?_|refine zB ?_|refine zC ?_|refine zD ?_|refine zE ?_|((refine idGdD ?_); first|refine zF ?_|refine zG ?_|refine zH (fun hg=>?_) fun hg=>?_|refine zI ?_|refine zJ ?_|refine zK (fun hg=>?_) fun hg=>?_)|((refine idGdN ?_); first|refine zL ?_|refine zM ?_|refine zN (fun hg=>?_) fun hg=>?_|refine zO ?_|refine zP ?_|refine zQ (fun hg=>?_) fun hg=>?_)|refine zR ?_|refine zS ?_|refine zT ?_|refine zU ?_|refine zV ?_|refine zW ?_|refine zX (fun hg=>?_) fun hg=>?_|refine zY ?_|refine zZ ?_|refine yA (fun hg=>?_) fun hg=>?_)|((refine idPick ?_); first|refine yB ?_|refine yC ?_|refine yD ?_|refine yE ?_|refine yF ?_|refine yG ?_|refine yH ?_|refine yI ?_|refine yJ ?_|refine yK ?_)|((refine idCond ?_); first|refine yL ?_|refine yM ?_|refine yN ?_|refine yO ?_|refine yP (fun hg=>?_) fun hg=>?_|refine yQ ?_|refine yR ?_|refine yS (fun hg=>?_) fun hg=>?_|refine yT ?_|refine yU ?_|refine yV (fun hg=>?_) fun hg=>?_|refine yW ?_|refine yX ?_|refine yY (fun hg=>?_) fun hg=>?_))
  | ((with_reducible refine idO ?_); (with_reducible refine oM_gen fun Kv hK=>?_); simp [go_sem, hk.cells]; (try simp (disch := omega) only [wrapI64, wrapU8, wrapU32, wrapU64]); (first|refine hK _ _ ?_|refine And.intro (by omega) (hK _ _ ?_)); clear hK; clear Kv)))
  refine tpower_ok s _ n (hs.next hk.below) (fun w2 h2 => ?_)
  exact k _ (hk.next h2).below
theorem plus_ok (s : Stp) (x n : Int) {dv : Value} (hs : SetR w s dv) (k : ∀ w', Below w.heap.size w w' → K (.int .i64 (plusQ s x n)) w') : callM Tryz.prog 74 #[stpV s dv, .int .i64 x, .int .i64 n] K w := by
  apply sh_74_ok
  unfold sh_74
  obtain ⟨ad, c, rfl⟩ := hs.ints.isSlice
  refine box_kn (cs := stpC s (.slice ad s.bases.length c)) rfl (.start w) fun b W hk hb1 hb => ?_
  repeat (any_goals (first
  | (with_reducible first|refine pureM_in ?_|((refine idGd ?_); first|refine zA ?_|refine zB ?_|refine zC ?_|refine zD ?_|refine zE ?_|((refine idGdD ?_); first|refine zF ?_|refine zG ?_|refine zH (fun hg=>?_) fun hg=>?_|refine zI ?_|refine zJ ?_|refine zK (fun hg=>?_) fun hg=>?_)|((refine idGdN ?_); first|refine zL ?_|refine zM ?_|refine zN (fun hg=>?_) fun hg=>?_|refine zO ?_|refine zP ?_|refine zQ (fun hg=>?_) fun hg=>?_)|refine zR ?_|refine zS ?_|refine zT ?_|refine zU ?_|refine zV ?_|refine zW ?_|refine zX (fun hg=>?_) fun hg=>?_|refine zY ?_|refine zZ ?_|refine yA (fun hg=>?_) fun hg=>?_)|((refine idPick ?_); first|refine yB ?_|refine yC ?_|refine yD ?_|refine yE ?_|refine yF ?_|refine yG ?_|refine yH ?_|refine yI ?_|refine yJ ?_|refine yK ?_)|((refine idCond ?_); first|refine yL ?_|refine yM ?_|refine yN ?_|refine yO ?_|refine yP (fun hg=>?_) fun hg=>?_|refine yQ ?_|refine yR ?_|refine yS (fun hg=>?_) fun hg=>?_|refine yT ?_|refine yU ?_|refine yV (fun hg=>?_) fun hg=>?_|refine yW ?_|refine yX ?_|refine yY (fun hg=>?_) fun hg=>?_))
  | ((with_reducible refine idO ?_); (with_reducible refine oM_gen fun Kv hK=>?_); simp [go_sem, hk.cells]; (try simp (disch := omega) only [wrapI64, wrapU8, wrapU32, wrapU64]); (first|refine hK _ _ ?_|refine And.intro (by omega) (hK _ _ ?_)); clear hK; clear Kv)))
  refine Add_ok _ x n ?_
  exact k _ hk.below
theorem less_ok (s : Stp) (x n : Int) {dv : Value} (hs : SetR w s dv) (k : ∀ w', Below w.heap.size w w' → K (.int .i64 (lessQ s x n)) w') : callM Tryz.prog 108 #[stpV s dv, .int .i64 x, .int .i64 n] K w := by
  apply sh_108_ok
  unfold sh_108
  obtain ⟨ad, c, rfl⟩ := hs.ints.isSlice
  refine box_kn (cs := stpC s (.slice ad s.bases.length c)) rfl (.start w) fun b W hk hb1 hb => ?_
  repeat (any_goals (first
  | (with_reducible first|refine pureM_in ?_|((refine idGd ?_); first|refine zA ?_|refine zB ?_|refine zC ?_|refine zD ?_|refine zE ?_|((refine idGdD ?_); first|refine zF ?_|refine zG ?_|refine zH (fun hg=>?_) fun hg=>?_|refine zI ?_|refine zJ ?_|refine zK (fun hg=>?_) fun hg=>?_)|((refine idGdN ?_); first|refine zL ?_|refine zM ?_|refine zN (fun hg=>?_) fun hg=>?_|refine zO ?_|refine zP ?_|refine zQ (fun hg=>?_) fun hg=>?_)|refine zR ?_|refine zS ?_|refine zT ?_|refine zU ?_|refine zV ?_|refine zW ?_|refine zX (fun hg=>?_) fun hg=>?_|refine zY ?_|refine zZ ?_|refine yA (fun hg=>?_) fun hg=>?_)|((refine idPick ?_); first|refine yB ?_|refine yC ?_|refine yD ?_|refine yE ?_|refine yF ?_|refine yG ?_|refine yH ?_|refine yI ?_|refine yJ ?_|refine yK ?_)|((refine idCond ?_); first|refine yL ?_|refine yM ?_|refine yN ?_|refine yO ?_|refine yP (fun hg=>?_) fun hg=>?_|refine yQ ?_|refine yR ?_|refine yS (fun hg=>?_) fun hg=>?_|refine yT ?_|refine yU ?_|refine yV (fun hg=>?_) fun hg=>?_|refine yW ?_|refine yX ?_|refine yY (fun hg=>?_) fun hg=>?_))
  | ((with_reducible refine idO ?_); (with_reducible refine oM_gen fun Kv hK=>?_); simp [go_sem, hk.cells]; (try simp (disch := omega) only [wrapI64, wrapU8, wrapU32, wrapU64]); (first|refine hK _ _ ?_|refine And.intro (by omega) (hK _ _ ?_)); clear hK; clear Kv)))
  refine Sub_ok _ x n ?_
  exact k _ hk.below
theorem product_t_ok (s : Stp) {dv ev : Value} {es : List Int} (hs : SetR w s dv) (he : Ints w ev es) (k : ∀ w', Below w.heap.size w w' → K (.int .i64 (prodG s.g s.bases es).1) w') : callM Tryz.prog 126 #[stpV s dv, ev] K w := by
  apply sh_126_ok
  unfold sh_126
  have hi := hs.ints
  obtain ⟨ad, c, rfl⟩ := hs.ints.isSlice
  refine box_kn (cs := stpC s (.slice ad s.bases.length c)) rfl (.start w) fun b W hk hb1 hb => ?_
  repeat (any_goals (first
  | (with_reducible first|refine pureM_in ?_|((refine idGd ?_); first|refine zA ?_|refine zB ?_|refine zC ?_|refine zD ?_|refine zE ?_|((refine idGdD ?_); first|refine zF ?_|refine zG ?_|refine zH (fun hg=>?_) fun hg=>?_|refine zI ?_|refine zJ ?_|refine zK (fun hg=>?_) fun hg=>?_)|((refine idGdN ?_); first|refine zL ?_|refine zM ?_|refine zN (fun hg=>?_) fun hg=>?_|refine zO ?_|refine zP ?_|refine zQ (fun hg=>?_) fun hg=>?_)|refine zR ?_|refine zS ?_|refine zT ?_|refine zU ?_|refine zV ?_|refine zW ?_|refine zX (fun hg=>?_) fun hg=>?_|refine zY ?_|refine zZ ?_|refine yA (fun hg=>?_) fun hg=>?_)|((refine idPick ?_); first|refine yB ?_|refine yC ?_|refine yD ?_|refine yE ?_|refine yF ?_|refine yG ?_|refine yH ?_|refine yI ?_|refine yJ ?_|refine yK ?_)|((refine idCond ?_); first|refine yL ?_|refine yM ?_|refine yN ?_|refine yO ?_|refine yP (fun hg=>?_) fun hg=>?_|refine yQ ?_|refine yR ?_|refine yS (fun hg=>?_) fun hg=>?_|refine yT ?_|refine yU ?_|refine yV (fun hg=>?_) fun hg=>?_|refine yW ?_|refine yX ?_|refine yY (fun hg=>?_) fun hg=>?_))
  | ((with_reducible refine idO ?_); (with_reducible refine oM_gen fun Kv hK=>?_); simp [go_sem, hk.cells]; (try simp (disch := omega) only [wrapI64, wrapU8, wrapU32, wrapU64]); (first|refine hK _ _ ?_|refine And.intro (by omega) (hK _ _ ?_)); clear hK; clear Kv)))
  refine Product_ok s.g (hi.next hk.below) (he.next hk.below) (fun w2 h2 => ?_)
  repeat (any_goals (first
  | (with_reducible first|refine pureM_in ?_|((refine idGd ?_); first|refine zA ?_|refine zB ?_|refine zC ?_|refine zD ?_|refine zE ?_|((refine idGdD ?_); first|refine zF ?_|refine zG ?_|refine zH (fun hg=>?_) fun hg=>?_|refine zI ?_|refine zJ ?_|refine zK (fun hg=>?_) fun hg=>?_)|((refine idGdN ?_); first|refine zL ?_|refine zM ?_|refine zN (fun hg=>?_) fun hg=>?_|refine zO ?_|refine zP ?_|refine zQ (fun hg=>?_) fun hg=>?_)|refine zR ?_|refine zS ?_|refine zT ?_|refine zU ?_|refine zV ?_|refine zW ?_|refine zX (fun hg=>?_) fun hg=>?_|refine zY ?_|refine zZ ?_|refine yA (fun hg=>?_) fun hg=>?_)|((refine idPick ?_); first|refine yB ?_|refine yC ?_|refine yD ?_|refine yE ?_|refine yF ?_|refine yG ?_|refine yH ?_|refine yI ?_|refine yJ ?_|refine yK ?_)|((refine idCond ?_); first|refine yL ?_|refine yM ?_|refine yN ?_|refine yO ?_|refine yP (fun hg=>?_) fun hg=>?_|refine yQ ?_|refine yR ?_|refine yS (fun hg=>?_) fun hg=>?_|refine yT ?_|refine yU ?_|refine yV (fun hg=>?_) fun hg=>?_|refine yW ?_|refine yX ?_|refine yY (fun hg=>?_) fun hg=>?_))
  | ((with_reducible refine idO ?_); (with_reducible refine oM_gen fun Kv hK=>?_); simp [go_sem]; (try simp (disch := omega) only [wrapI64, wrapU8, wrapU32, wrapU64]); (first|refine hK _ _ ?_|refine And.intro (by omega) (hK _ _ ?_)); clear hK; clear Kv)))
  exact k _ (hk.next h2).below
def TmJ (f : Int → Int → Int) (l : List Int) (R : Int) (L : List (Addr × Value)) (w0 : World) (vs : List Value) (w' : World) : Prop := Kn w0 L w' ∧ ∃ (v : Value) (o : Int) (i : Nat), vs = [v, .int .i64 o, .int .i64 (i : Int)] ∧ i ≤ l.length ∧ (l.drop i).foldl f o = R
theorem times_ok (s : Stp) (x : Int) {dv v : Value} {l : List Int} (hs : SetR w s dv) (hl : Ints w v l) (k : ∀ w', Below w.heap.size w w' → K (.int .i64 (timesM s x l)) w') : callM Tryz.prog 127 #[stpV s dv, .int .i64 x, v] K w := by
  apply sh_127_ok
  unfold sh_127
  obtain ⟨ad, c, rfl⟩ := hs.ints.isSlice
  refine box_kn (cs := stpC s (.slice ad s.bases.length c)) rfl (.start w) fun b W hk hb1 hb => ?_
  obtain ⟨ad2, c2, rfl⟩ := hl.isSlice
  have hll := hl.len
  repeat (any_goals (first
  | (with_reducible first|refine pureM_in ?_|((refine idGd ?_); first|refine zA ?_|refine zB ?_|refine zC ?_|refine zD ?_|refine zE ?_|((refine idGdD ?_); first|refine zF ?_|refine zG ?_|refine zH (fun hg=>?_) fun hg=>?_|refine zI ?_|refine zJ ?_|refine zK (fun hg=>?_) fun hg=>?_)|((refine idGdN ?_); first|refine zL ?_|refine zM ?_|refine zN (fun hg=>?_) fun hg=>?_|refine zO ?_|refine zP ?_|refine zQ (fun hg=>?_) fun hg=>?_)|refine zR ?_|refine zS ?_|refine zT ?_|refine zU ?_|refine zV ?_|refine zW ?_|refine zX (fun hg=>?_) fun hg=>?_|refine zY ?_|refine zZ ?_|refine yA (fun hg=>?_) fun hg=>?_)|((refine idPick ?_); first|refine yB ?_|refine yC ?_|refine yD ?_|refine yE ?_|refine yF ?_|refine yG ?_|refine yH ?_|refine yI ?_|refine yJ ?_|refine yK ?_)|((refine idCond ?_); first|refine yL ?_|refine yM ?_|refine yN ?_|refine yO ?_|refine yP (fun hg=>?_) fun hg=>?_|refine yQ ?_|refine yR ?_|refine yS (fun hg=>?_) fun hg=>?_|refine yT ?_|refine yU ?_|refine yV (fun hg=>?_) fun hg=>?_|refine yW ?_|refine yX ?_|refine yY (fun hg=>?_) fun hg=>?_))
  | ((with_reducible refine idO ?_); (with_reducible refine oM_gen fun Kv hK=>?_); simp [go_sem]; (try simp (disch := omega) only [wrapI64, wrapU8, wrapU32, wrapU64]); (first|refine hK _ _ ?_|refine And.intro (by omega) (hK _ _ ?_)); clear hK; clear Kv)))
  unfold timesM at k
  refine ⟨TmJ (fun a x => timesG s.g a x) l _ _ w, vsMu l.length, ⟨hk, _, _, 0, rfl, by omega, rfl⟩, ?_⟩
  rintro _ _ w1 ⟨hk, u1, o, i, rfl, hi, ha⟩
  by_cases hin : i = l.length
  · rw [List.drop_of_length_le (by omega), List.foldl_nil] at ha
    repeat (any_goals (first
    | (with_reducible first|refine pureM_in ?_|((refine idGd ?_); first|refine zA ?_|refine zB ?_|refine zC ?_|refine zD ?_|refine zE ?_|((refine idGdD ?_); first|refine zF ?_|refine zG ?_|refine zH (fun hg=>?_) fun hg=>?_|refine zI ?_|refine zJ ?_|refine zK (fun hg=>?_) fun hg=>?_)|((refine idGdN ?_); first|refine zL ?_|refine zM ?_|refine zN (fun hg=>?_) fun hg=>?_|refine zO ?_|refine zP ?_|refine zQ (fun hg=>?_) fun hg=>?_)|refine zR ?_|refine zS ?_|refine zT ?_|refine zU ?_|refine zV ?_|refine zW ?_|refine zX (fun hg=>?_) fun hg=>?_|refine zY ?_|refine zZ ?_|refine yA (fun hg=>?_) fun hg=>?_)|((refine idPick ?_); first|refine yB ?_|refine yC ?_|refine yD ?_|refine yE ?_|refine yF ?_|refine yG ?_|refine yH ?_|refine yI ?_|refine yJ ?_|refine yK ?_)|((refine idCond ?_); first|refine yL ?_|refine yM ?_|refine yN ?_|refine yO ?_|refine yP (fun hg=>?_) fun hg=>?_|refine yQ ?_|refine yR ?_|refine yS (fun hg=>?_) fun hg=>?_|refine yT ?_|refine yU ?_|refine yV (fun hg=>?_) fun hg=>?_|refine yW ?_|refine yX ?_|refine yY (fun hg=>?_) fun hg=>?_))
    | ((with_reducible refine idO ?_); (with_reducible refine oM_gen fun Kv hK=>?_); simp [go_sem]; (try simp (disch := omega) only [wrapI64, wrapU8, wrapU32, wrapU64]); (first|refine hK _ _ ?_|refine And.intro (by omega) (hK _ _ ?_)); clear hK; clear Kv)))
    rw [ha]
    exact k _ hk.below
  · rw [List.drop_eq_getElem_cons (by omega), List.foldl_cons] at ha
    obtain ⟨b1, o1, rfl, hb1, ca, ra, _⟩ := hl.at (i := i) (by omega)
    repeat (any_goals (first
    | (with_reducible first|refine pureM_in ?_|((refine idGd ?_); first|refine zA ?_|refine zB ?_|refine zC ?_|refine zD ?_|refine zE ?_|((refine idGdD ?_); first|refine zF ?_|refine zG ?_|refine zH (fun hg=>?_) fun hg=>?_|refine zI ?_|refine zJ ?_|refine zK (fun hg=>?_) fun hg=>?_)|((refine idGdN ?_); first|refine zL ?_|refine zM ?_|refine zN (fun hg=>?_) fun hg=>?_|refine zO ?_|refine zP ?_|refine zQ (fun hg=>?_) fun hg=>?_)|refine zR ?_|refine zS ?_|refine zT ?_|refine zU ?_|refine zV ?_|refine zW ?_|refine zX (fun hg=>?_) fun hg=>?_|refine zY ?_|refine zZ ?_|refine yA (fun hg=>?_) fun hg=>?_)|((refine idPick ?_); first|refine yB ?_|refine yC ?_|refine yD ?_|refine yE ?_|refine yF ?_|refine yG ?_|refine yH ?_|refine yI ?_|refine yJ ?_|refine yK ?_)|((refine idCond ?_); first|refine yL ?_|refine yM ?_|refine yN ?_|refine yO ?_|refine yP (fun hg=>?_) fun hg=>?_|refine yQ ?_|refine yR ?_|refine yS (fun hg=>?_) fun hg=>?_|refine yT ?_|refine yU ?_|refine yV (fun hg=>?_) fun hg=>?_|refine yW ?_|refine yX ?_|refine yY (fun hg=>?_) fun hg=>?_))
    | ((with_reducible refine idO ?_); (with_reducible refine oM_gen fun Kv hK=>?_); simp [go_sem, ca _ hk.below, hk.cells]; (try simp (disch := omega) only [wrapI64, wrapU8, wrapU32, wrapU64]); (first|refine hK _ _ ?_|refine And.intro (by omega) (hK _ _ ?_)); clear hK; clear Kv)))
    refine Times_ok s.g _ _ (fun w2 h2 => ?_)
    repeat (any_goals (first
    | (with_reducible first|refine pureM_in ?_|((refine idGd ?_); first|refine zA ?_|refine zB ?_|refine zC ?_|refine zD ?_|refine zE ?_|((refine idGdD ?_); first|refine zF ?_|refine zG ?_|refine zH (fun hg=>?_) fun hg=>?_|refine zI ?_|refine zJ ?_|refine zK (fun hg=>?_) fun hg=>?_)|((refine idGdN ?_); first|refine zL ?_|refine zM ?_|refine zN (fun hg=>?_) fun hg=>?_|refine zO ?_|refine zP ?_|refine zQ (fun hg=>?_) fun hg=>?_)|refine zR ?_|refine zS ?_|refine zT ?_|refine zU ?_|refine zV ?_|refine zW ?_|refine zX (fun hg=>?_) fun hg=>?_|refine zY ?_|refine zZ ?_|refine yA (fun hg=>?_) fun hg=>?_)|((refine idPick ?_); first|refine yB ?_|refine yC ?_|refine yD ?_|refine yE ?_|refine yF ?_|refine yG ?_|refine yH ?_|refine yI ?_|refine yJ ?_|refine yK ?_)|((refine idCond ?_); first|refine yL ?_|refine yM ?_|refine yN ?_|refine yO ?_|refine yP (fun hg=>?_) fun hg=>?_|refine yQ ?_|refine yR ?_|refine yS (fun hg=>?_) fun hg=>?_|refine yT ?_|refine yU ?_|refine yV (fun hg=>?_) fun hg=>?_|refine yW ?_|refine yX ?_|refine yY (fun hg=>?_) fun hg=>?_))
    | ((with_reducible refine idO ?_); (with_reducible refine oM_gen fun Kv hK=>?_); simp [go_sem]; (try simp (disch := omega) only [wrapI64, wrapU8, wrapU32, wrapU64]); (first|refine hK _ _ ?_|refine And.intro (by omega) (hK _ _ ?_)); clear hK; clear Kv)))
    refine ⟨⟨hk.next h2, _, _, i + 1, rfl, by omega, ha⟩, ?_⟩
    simp only [vsMu_eq]; omega
theorem mul_ok (s : Stp) (x : Int) {dv v : Value} {l : List Int} (hs : SetR w s dv) (hl : Ints w v l) (k : ∀ w', Below w.heap.size w w' → K (.int .i64 (mulQ s x l)) w') : callM Tryz.prog 75 #[stpV s dv, .int .i64 x, v] K w := by
  apply sh_75_ok
  unfold sh_75
  obtain ⟨ad, c, rfl⟩ := hs.ints.isSlice
  refine box_kn (cs := stpC s (.slice ad s.bases.length c)) rfl (.start w) fun b W hk hb1 hb => ?_
  obtain ⟨ad2, c2, rfl⟩ := hl.isSlice
  have hll := hl.len
  repeat (any_goals (first
  | (with_reducible first|refine pureM_in ?_|((refine idGd ?_); first|refine zA ?_|refine zB ?_|refine zC ?_|refine zD ?_|refine zE ?_|((refine idGdD ?_); first|refine zF ?_|refine zG ?_|refine zH (fun hg=>?_) fun hg=>?_|refine zI ?_|refine zJ ?_|refine zK (fun hg=>?_) fun hg=>?_)|((refine idGdN ?_); first|refine zL ?_|refine zM ?_|refine zN (fun hg=>?_) fun hg=>?_|refine zO ?_|refine zP ?_|refine zQ (fun hg=>?_) fun hg=>?_)|refine zR ?_|refine zS ?_|refine zT ?_|refine zU ?_|refine zV ?_|refine zW ?_|refine zX (fun hg=>?_) fun hg=>?_|refine zY ?_|refine zZ ?_|refine yA (fun hg=>?_) fun hg=>?_)|((refine idPick ?_); first|refine yB ?_|refine yC ?_|refine yD ?_|refine yE ?_|refine yF ?_|refine yG ?_|refine yH ?_|refine yI ?_|refine yJ ?_|refine yK ?_)|((refine idCond ?_); first|refine yL ?_|refine yM ?_|refine yN ?_|refine yO ?_|refine yP (fun hg=>?_) fun hg=>?_|refine yQ ?_|refine yR ?_|refine yS (fun hg=>?_) fun hg=>?_|refine yT ?_|refine yU ?_|refine yV (fun hg=>?_) fun hg=>?_|refine yW ?_|refine yX ?_|refine yY (fun hg=>?_) fun hg=>?_))
  | ((with_reducible refine idO ?_); (with_reducible refine oM_gen fun Kv hK=>?_); simp [go_sem]; (try simp (disch := omega) only [wrapI64, wrapU8, wrapU32, wrapU64]); (first|refine hK _ _ ?_|refine And.intro (by omega) (hK _ _ ?_)); clear hK; clear Kv)))
  unfold mulQ at k
  refine ⟨TmJ (fun a x => mulM s.g.Q a x) l _ _ w, vsMu l.length, ⟨hk, _, _, 0, rfl, by omega, rfl⟩, ?_⟩
  rintro _ _ w1 ⟨hk, u1, o, i, rfl, hi, ha⟩
  by_cases hin : i = l.length
  · rw [List.drop_of_length_le (by omega), List.foldl_nil] at ha
    repeat (any_goals (first
    | (with_reducible first|refine pureM_in ?_|((refine idGd ?_); first|refine zA ?_|refine zB ?_|refine zC ?_|refine zD ?_|refine zE ?_|((refine idGdD ?_); first|refine zF ?_|refine zG ?_|refine zH (fun hg=>?_) fun hg=>?_|refine zI ?_|refine zJ ?_|refine zK (fun hg=>?_) fun hg=>?_)|((refine idGdN ?_); first|refine zL ?_|refine zM ?_|refine zN (fun hg=>?_) fun hg=>?_|refine zO ?_|refine zP ?_|refine zQ (fun hg=>?_) fun hg=>?_)|refine zR ?_|refine zS ?_|refine zT ?_|refine zU ?_|refine zV ?_|refine zW ?_|refine zX (fun hg=>?_) fun hg=>?_|refine zY ?_|refine zZ ?_|refine yA (fun hg=>?_) fun hg=>?_)|((refine idPick ?_); first|refine yB ?_|refine yC ?_|refine yD ?_|refine yE ?_|refine yF ?_|refine yG ?_|refine yH ?_|refine yI ?_|refine yJ ?_|refine yK ?_)|((refine idCond ?_); first|refine yL ?_|refine yM ?_|refine yN ?_|refine yO ?_|refine yP (fun hg=>?_) fun hg=>?_|refine yQ ?_|refine yR ?_|refine yS (fun hg=>?_) fun hg=>?_|refine yT ?_|refine yU ?_|refine yV (fun hg=>?_) fun hg=>?_|refine yW ?_|refine yX ?_|refine yY (fun hg=>?_) fun hg=>?_))
    | ((with_reducible refine idO ?_); (with_reducible refine oM_gen fun Kv hK=>?_); simp [go_sem]; (try simp (disch := omega) only [wrapI64, wrapU8, wrapU32, wrapU64]); (first|refine hK _ _ ?_|refine And.intro (by omega) (hK _ _ ?_)); clear hK; clear Kv)))
    rw [ha]
    exact k _ hk.below
  · rw [List.drop_eq_getElem_cons (by omega), List.foldl_cons] at ha
    obtain ⟨b1, o1, rfl, hb1, ca, ra, _⟩ := hl.at (i := i) (by omega)
    repeat (any_goals (first
    | (with_reducible first|refine pureM_in ?_|((refine idGd ?_); first|refine zA ?_|refine zB ?_|refine zC ?_|refine zD ?_|refine zE ?_|((refine idGdD ?_); first|refine zF ?_|refine zG ?_|refine zH (fun hg=>?_) fun hg=>?_|refine zI ?_|refine zJ ?_|refine zK (fun hg=>?_) fun hg=>?_)|((refine idGdN ?_); first|refine zL ?_|refine zM ?_|refine zN (fun hg=>?_) fun hg=>?_|refine zO ?_|refine zP ?_|refine zQ (fun hg=>?_) fun hg=>?_)|refine zR ?_|refine zS ?_|refine zT ?_|refine zU ?_|refine zV ?_|refine zW ?_|refine zX (fun hg=>?_) fun hg=>?_|refine zY ?_|refine zZ ?_|refine yA (fun hg=>?_) fun hg=>?_)|((refine idPick ?_); first|refine yB ?_|refine yC ?_|refine yD ?_|refine yE ?_|refine yF ?_|refine yG ?_|refine yH ?_|refine yI ?_|refine yJ ?_|refine yK ?_)|((refine idCond ?_); first|refine yL ?_|refine yM ?_|refine yN ?_|refine yO ?_|refine yP (fun hg=>?_) fun hg=>?_|refine yQ ?_|refine yR ?_|refine yS (fun hg=>?_) fun hg=>?_|refine yT ?_|refine yU ?_|refine yV (fun hg=>?_) fun hg=>?_|refine yW ?_|refine yX ?_|refine yY (fun hg=>?_) fun hg=>?_))
    | ((with_reducible refine idO ?_); (with_reducible refine oM_gen fun Kv hK=>?_); simp [go_sem, ca _ hk.below, hk.cells]; (try simp (disch := omega) only [wrapI64, wrapU8, wrapU32, wrapU64]); (first|refine hK _ _ ?_|refine And.intro (by omega) (hK _ _ ?_)); clear hK; clear Kv)))
    refine Mul_ok _ _ _ (fun w2 h2 => ?_)
    repeat (any_goals (first
    | (with_reducible first|refine pureM_in ?_|((refine idGd ?_); first|refine zA ?_|refine zB ?_|refine zC ?_|refine zD ?_|refine zE ?_|((refine idGdD ?_); first|refine zF ?_|refine zG ?_|refine zH (fun hg=>?_) fun hg=>?_|refine zI ?_|refine zJ ?_|refine zK (fun hg=>?_) fun hg=>?_)|((refine idGdN ?_); first|refine zL ?_|refine zM ?_|refine zN (fun hg=>?_) fun hg=>?_|refine zO ?_|refine zP ?_|refine zQ (fun hg=>?_) fun hg=>?_)|refine zR ?_|refine zS ?_|refine zT ?_|refine zU ?_|refine zV ?_|refine zW ?_|refine zX (fun hg=>?_) fun hg=>?_|refine zY ?_|refine zZ ?_|refine yA (fun hg=>?_) fun hg=>?_)|((refine idPick ?_); first|refine yB ?_|refine yC ?_|refine yD ?_|refine yE ?_|refine yF ?_|refine yG ?_|refine yH ?_|refine yI ?_|refine yJ ?_|refine yK ?_)|((refine idCond ?_); first|refine yL ?_|refine yM ?_|refine yN ?_|refine yO ?_|refine yP (fun hg=>?_) fun hg=>?_|refine yQ ?_|refine yR ?_|refine yS (fun hg=>?_) fun hg=>?_|refine yT ?_|refine yU ?_|refine yV (fun hg=>?_) fun hg=>?_|refine yW ?_|refine yX ?_|refine yY (fun hg=>?_) fun hg=>?_))
    | ((with_reducible refine idO ?_); (with_reducible refine oM_gen fun Kv hK=>?_); simp [go_sem]; (try simp (disch := omega) only [wrapI64, wrapU8, wrapU32, wrapU64]); (first|refine hK _ _ ?_|refine And.intro (by omega) (hK _ _ ?_)); clear hK; clear Kv)))
    refine ⟨⟨hk.next h2, _, _, i + 1, rfl, by omega, ha⟩, ?_⟩
    simp only [vsMu_eq]; omega
end
end Go.Proofs
/- Variables of one's own: results, and locals that are stored once. -/
namespace Go.Sh
open Go Go.RowKit
theorem cells_lt {w : World} : ∀ {L : List (Addr × Value)}, cellsAre w L → ∀ p ∈ L, p.1.block < w.heap.size
  | p :: l, h, q, hq => by
    rcases List.mem_cons.1 hq with rfl | hq
    · have h1 := h.1
      by_cases hc : q.1.block < w.heap.size
      · exact hc
      · unfold World.cell? at h1
        rw [Array.getElem?_eq_none (by omega)] at h1
        simp at h1
    · exact cells_lt h.2 q hq
/-- w' comes after w0, holds these cells, and a block of one's own -/
structure KnM (w0 : World) (L : List (Addr × Value)) (g n : Nat) (w' : World) : Prop where
  kn : Kn w0 L w'
  mine : Mine w' g n
  base : w0.heap.size ≤ g
  off : ∀ p ∈ L, p.1.block ≠ g
theorem mine_lt {w : World} {g n : Nat} (h : Mine w g n) : g < w.heap.size := by
  obtain ⟨cur, T, h1, _⟩ := h
  exact (Array.getElem?_eq_some_iff.1 h1).1
theorem cellsOf_mem {L : List (Addr × Value)} {b : Nat} : ∀ (cs : List Value) (i : Nat) (p : Addr × Value), p ∈ cellsOf L b i cs → p.1.block = b ∨ p ∈ L
  | [], _, _, h => .inr h
  | _ :: l, i, p, h => by
    rcases List.mem_cons.1 h with rfl | h
    · exact .inl rfl
    · exact cellsOf_mem l (i + 1) p h
namespace KnM
variable {w0 w w' : World} {L : List (Addr × Value)} {g n : Nat}
theorem next (h : KnM w0 L g n w) (hb : Below w.heap.size w w') : KnM w0 L g n w' := ⟨h.kn.next hb, h.mine.next hb, h.base, h.off⟩
theorem drew (h : KnM w0 L g n w) : KnM w0 L g n { w with drawn := w.drawn + 1 } := h.next .drawn
theorem cells (h : KnM w0 L g n w) : cellsAre w L := h.kn.cells
theorem below (h : KnM w0 L g n w) : Below w0.heap.size w0 w := h.kn.below
end KnM
section
variable {P : Program} {w0 w : World} {K : Value → World → Prop} {T T' : TypeId} {L : List (Addr × Value)} {g n : Nat}
theorem box_knm {x : Value} {cs : List Value} (hx : x.cells = cs.toArray) (hk : KnM w0 L g n w) (k : ∀ b W, KnM w0 (cellsOf L b 0 cs) g n W → Below w.heap.size w W → w.heap.size ≤ b → K (.pointer (some ⟨b, 0, none⟩)) W) : oM P (.box T (.tmp 0)) T' [x] K w :=
  box_kn hx hk.kn fun b W hk' h1 h2 => k b W ⟨hk', hk.mine.next h1, hk.base, fun p hp => (cellsOf_mem cs 0 p hp).elim (fun e => by have := mine_lt hk.mine; omega) (hk.off p)⟩ h1 h2
theorem alloc_mine {zs : List Value} (hA : ∀ w, (Instr.alloc T true (.tuple #[])).run P w = .ok (.pointer (some ⟨w.heap.size, 0, none⟩)) (w.alloc (.cells zs.toArray T))) (hn : zs.length = n) (hk : Kn w0 L w)
    (k : ∀ g W, KnM w0 L g n W → Below w.heap.size w W → w.heap.size ≤ g → K (.pointer (some ⟨g, 0, none⟩)) W) : oM P (.alloc T) T' [] K w := by
  rw [oM_alloc, hA]
  have hb := (Below.refl w.heap.size w).alloc (Nat.le_refl _) (.cells zs.toArray T)
  refine k _ _ ⟨hk.next hb, ⟨zs.toArray, T, ?_, by simpa using hn⟩, hk.below.size, fun p hp => ?_⟩ hb (Nat.le_refl _)
  · show (w.heap.push _)[w.heap.size]? = _
    simp
  · have := cells_lt hk.cells p hp
    omega
theorem store_run {x : Value} {xs : List Value} {W : World} (hT : ∀ w, (sizeOf T).run P w = .ok n w) (hx : x.cells = xs.toArray) (hl : xs.length = n) (h1 : ∀ u ∈ xs, u.oneCell' = true) (hm : Mine w g n) :
    ∃ W, (Instr.storeAt T (.pointer (some ⟨g, 0, none⟩)) x).run P w = .ok () W ∧ w.grownBy W (some g) ∧ Mine W g n ∧ cellsAre W (cellsOf [] g 0 xs) := by
  obtain ⟨cur, T0, hg, hc⟩ := hm
  have hst := run_storeCells_at P g 0 T0 xs 0 cur w hg (by omega) h1
  have e1 : (cur.toList.take (0 + 0) ++ xs ++ cur.toList.drop (0 + 0 + xs.length)).toArray = xs.toArray := by
    rw [List.drop_of_length_le (by simp; omega)]
    simp
  rw [e1] at hst
  have hh := setRow_heap w g cur xs.toArray T0 (0, 0) hg
  refine ⟨w.setRow g xs.toArray, ?_, grown_setRow _ _ _, ⟨_, _, hh, by simpa using hl⟩, cellsOf_are (xs := xs) (L := []) trivial (fun i v hi => ?_) xs 0 rfl⟩
  · have e2 : x.cells.toList = xs := by rw [hx]
    have e3 : x.cells.size = n := by rw [hx]; simpa using hl
    unfold Instr.storeAt storeVar
    rw [e2, e3]
    simp [hT, go_sem]
    exact hst
  · unfold World.cell?
    rw [hh]
    simpa using hi
theorem store_mine {x : Value} {xs : List Value} (hT : ∀ w, (sizeOf T).run P w = .ok n w) (hx : x.cells = xs.toArray) (hl : xs.length = n) (h1 : ∀ u ∈ xs, u.oneCell' = true) (hk : KnM w0 L g n w)
    (k : ∀ W, KnM w0 L g n W → cellsAre W (cellsOf [] g 0 xs) → K undef W) : oM P (.store T (.tmp 0) (.tmp 1)) T' [.pointer (some ⟨g, 0, none⟩), x] K w := by
  obtain ⟨W, e, hg, hm, hc⟩ := store_run (W := w) hT hx hl h1 hk.mine
  rw [oM_store, e]
  exact k W ⟨hk.kn.wrote hg hk.base hk.off, hm, hk.base, hk.off⟩ hc
/-- a local variable that is declared and stored at once -/
theorem local_kn {zs : List Value} {x : Value} {xs : List Value} {T2 : TypeId} {K : Value → World → Prop} (hA : ∀ w, (Instr.alloc T true (.tuple #[])).run P w = .ok (.pointer (some ⟨w.heap.size, 0, none⟩)) (w.alloc (.cells zs.toArray T))) (hn : zs.length = n)
    (hT : ∀ w, (sizeOf T).run P w = .ok n w) (hx : x.cells = xs.toArray) (hl : xs.length = n) (h1 : ∀ u ∈ xs, u.oneCell' = true) (hk : Kn w0 L w)
    (k : ∀ b W, Kn w0 (cellsOf L b 0 xs) W → Below w.heap.size w W → w.heap.size ≤ b → K (.pointer (some ⟨b, 0, none⟩)) W) :
    oM P (.alloc T) T' [] (fun v w => oM P (.store T (.tmp 0) (.tmp 1)) T2 [v, x] (fun _ w => K v w) w) w := by
  refine alloc_mine hA hn hk fun g W hk2 hb hg => ?_
  obtain ⟨W2, e, hgr, hm, hc⟩ := store_run (W := w) hT hx hl h1 hk2.mine
  rw [oM_store, e]
  have hb2 : Below w.heap.size w W2 := hb.grown hgr hb.size (fun k hk => by cases hk; exact hg)
  refine k g W2 ⟨(hk2.kn.wrote hgr hk2.base hk2.off).below, ?_⟩ hb2 hg
  have hL := (hk2.kn.wrote hgr hk2.base hk2.off).cells
  clear e k
  have : ∀ (l : List Value) (i : Nat), cellsAre W2 (cellsOf [] g i l) → cellsAre W2 (cellsOf L g i l) := by
    intro l
    induction l with
    | nil => intro i _; exact hL
    | cons a l ih => intro i h; exact ⟨h.1, ih (i + 1) h.2⟩
  exact this xs 0 hc
theorem local_knm {zs : List Value} {x : Value} {xs : List Value} {T2 : TypeId} {K : Value → World → Prop} {m : Nat} (hA : ∀ w, (Instr.alloc T true (.tuple #[])).run P w = .ok (.pointer (some ⟨w.heap.size, 0, none⟩)) (w.alloc (.cells zs.toArray T))) (hn : zs.length = m)
    (hT : ∀ w, (sizeOf T).run P w = .ok m w) (hx : x.cells = xs.toArray) (hl : xs.length = m) (h1 : ∀ u ∈ xs, u.oneCell' = true) (hk : KnM w0 L g n w)
    (k : ∀ b W, KnM w0 (cellsOf L b 0 xs) g n W → Below w.heap.size w W → w.heap.size ≤ b → K (.pointer (some ⟨b, 0, none⟩)) W) :
    oM P (.alloc T) T' [] (fun v w => oM P (.store T (.tmp 0) (.tmp 1)) T2 [v, x] (fun _ w => K v w) w) w :=
  local_kn hA hn hT hx hl h1 hk.kn fun b W hk' h1 h2 => k b W ⟨hk', hk.mine.next h1, hk.base, fun p hp => (cellsOf_mem xs 0 p hp).elim (fun e => by have := mine_lt hk.mine; omega) (hk.off p)⟩ h1 h2
/-! the heads of what is held -/
variable {C : World → Prop} {KQ : Value → Prop} {x y v : Value} {p : Prop} [Decidable p]
theorem idOH {o : Op} {l : List Value} (h : oH P o T l C KQ) : oH P o T l C KQ := h
theorem idGdH {c : Bool} {m : (World → Prop) → (Value → Prop) → Prop} (h : gdH c m C KQ) : gdH c m C KQ := h
theorem gdH_conv {c : Bool} {m : (World → Prop) → (Value → Prop) → Prop} (h : ∀ W0, gdM c (fun K' w => m C (fun v => K' v w)) (fun v _ => KQ v) W0) : gdH c m C KQ := by
  have h := h ⟨#[], default, 0, default, default⟩
  cases c <;> exact h
theorem pickH {b : Bool} (k : KQ (bif b then x else y)) : oH P (.pick (.tmp 0) (.tmp 1) (.tmp 2)) T [.bool b, x, y] C KQ := by
  refine ⟨_, fun w _ => ?_, k⟩
  simp [xop, execOp, evalL, evE, asBool]
theorem pickHT (k : KQ x) : oH P (.pick (.tmp 0) (.tmp 1) (.tmp 2)) T [.bool true, x, y] C KQ := pickH k
theorem pickHF (k : KQ y) : oH P (.pick (.tmp 0) (.tmp 1) (.tmp 2)) T [.bool false, x, y] C KQ := pickH k
theorem pickH_pos (h : p) (k : KQ x) : oH P (.pick (.tmp 0) (.tmp 1) (.tmp 2)) T [.bool (decide p), x, y] C KQ := pickH (by rw [decide_eq_true h]; exact k)
theorem pickH_neg (h : ¬p) (k : KQ y) : oH P (.pick (.tmp 0) (.tmp 1) (.tmp 2)) T [.bool (decide p), x, y] C KQ := pickH (by rw [decide_eq_false h]; exact k)
theorem pickHn_pos (h : ¬p) (k : KQ x) : oH P (.pick (.tmp 0) (.tmp 1) (.tmp 2)) T [.bool (!decide p), x, y] C KQ := pickH (by rw [decide_eq_false h]; exact k)
theorem pickHn_neg (h : p) (k : KQ y) : oH P (.pick (.tmp 0) (.tmp 1) (.tmp 2)) T [.bool (!decide p), x, y] C KQ := pickH (by rw [decide_eq_true h]; exact k)
theorem vA (k : KQ x) : oH P (.pick (.tmp 0) (.tmp 1) (.tmp 2)) T [.bool true, x, y] C KQ := pickHT k
theorem vB (k : KQ y) : oH P (.pick (.tmp 0) (.tmp 1) (.tmp 2)) T [.bool false, x, y] C KQ := pickHF k
theorem vC (k : KQ x) (h : p := by first|assumption|omega) : oH P (.pick (.tmp 0) (.tmp 1) (.tmp 2)) T [.bool (decide p), x, y] C KQ := pickH_pos h k
theorem vD (k : KQ y) (h : ¬p := by first|assumption|omega) : oH P (.pick (.tmp 0) (.tmp 1) (.tmp 2)) T [.bool (decide p), x, y] C KQ := pickH_neg h k
theorem vE (k : KQ x) (h : ¬p := by first|assumption|omega) : oH P (.pick (.tmp 0) (.tmp 1) (.tmp 2)) T [.bool (!decide p), x, y] C KQ := pickHn_pos h k
theorem vF (k : KQ y) (h : p := by first|assumption|omega) : oH P (.pick (.tmp 0) (.tmp 1) (.tmp 2)) T [.bool (!decide p), x, y] C KQ := pickHn_neg h k
end
end Go.Sh
--G
namespace Go.Proofs
open Go Go.Sh Go.RowKit FdSpec TkSpec
set_option linter.unusedSimpArgs false
set_option linter.unusedVariables false
set_option maxRecDepth 10000
section
variable {K : Value → World → Prop} {w w0 : World} {L : List (Addr × Value)}
theorem sz_desk (w : World) : (sizeOf 111).run Tryz.prog w = .ok 5 w := by kernel_rfl
theorem al_desk (w : World) : (Instr.alloc 111 true (.tuple #[])).run Tryz.prog w = .ok (.pointer (some ⟨w.heap.size, 0, none⟩)) (w.alloc (.cells [.int .i64 0, .int .i64 0, .int .i64 0, .slice none 0 0, .int .i64 0].toArray 111)) := by kernel_rfl
theorem stp_one (s : Stp) (ad : Option Addr) (n c : Nat) : ∀ u ∈ stpC s (.slice ad n c), u.oneCell' = true := by
  intro u hu
  simp only [stpC, List.mem_cons, List.not_mem_nil, or_false] at hu
  rcases hu with rfl | rfl | rfl | rfl | rfl <;> rfl
theorem open_ok (s : Stp) {v : Value} (hs : SetR w s v) (k : ∀ w', Below w.heap.size w w' → K (.tuple #[stpV s v, .bool (validS s)]) w') : callM Tryz.prog 78 #[stpV s v] K w := by
  apply sh_78_ok
  unfold sh_78
  obtain ⟨ad, c, rfl⟩ := hs.ints.isSlice
  refine box_kn (cs := stpC s (.slice ad s.bases.length c)) rfl (.start w) fun b W hk hb1 hb => ?_
  refine alloc_mine al_desk rfl hk fun g W2 hk hb2 hg => ?_
  refine ⟨KnM w _ g 5, hk.drew, ?_⟩
  have hk := hk.drew
  have hone := stp_one s ad s.bases.length c
  repeat (any_goals (first
  | (with_reducible first|refine pureM_in ?_|refine pureQ_in ?_|refine pureH_in ?_|((refine idGdQ ?_); refine gdQ_conv fun _=>?_)|((refine idGdH ?_); refine gdH_conv fun _=>?_)|refine And.intro (Eq.refl (α := World) _) ?_|refine forall_one ?_|((refine idGd ?_); first|refine zA ?_|refine zB ?_|refine zC ?_|refine zD ?_|refine zE ?_|((refine idGdD ?_); first|refine zF ?_|refine zG ?_|refine zH (fun hg=>?_) fun hg=>?_|refine zI ?_|refine zJ ?_|refine zK (fun hg=>?_) fun hg=>?_)|((refine idGdN ?_); first|refine zL ?_|refine zM ?_|refine zN (fun hg=>?_) fun hg=>?_|refine zO ?_|refine zP ?_|refine zQ (fun hg=>?_) fun hg=>?_)|refine zR ?_|refine zS ?_|refine zT ?_|refine zU ?_|refine zV ?_|refine zW ?_|refine zX (fun hg=>?_) fun hg=>?_|refine zY ?_|refine zZ ?_|refine yA (fun hg=>?_) fun hg=>?_)|((refine idPick ?_); first|refine yB ?_|refine yC ?_|refine yD ?_|refine yE ?_|refine yF ?_|refine yG ?_|refine yH ?_|refine yI ?_|refine yJ ?_|refine yK ?_)|((refine idCond ?_); first|refine yL ?_|refine yM ?_|refine yN ?_|refine yO ?_|refine yP (fun hg=>?_) fun hg=>?_|refine yQ ?_|refine yR ?_|refine yS (fun hg=>?_) fun hg=>?_|refine yT ?_|refine yU ?_|refine yV (fun hg=>?_) fun hg=>?_|refine yW ?_|refine yX ?_|refine yY (fun hg=>?_) fun hg=>?_))
  | ((with_reducible refine idOQ ?_); first|(with_reducible first|refine wA ?_|refine wB ?_|refine wC ?_|refine wD ?_|refine wE ?_|refine wF ?_|refine oQ_nil ?_)|((with_reducible refine oQ_one ?_ ?_); exact ⟨_, rfl⟩)|(with_reducible refine oQ_of ⟨_, rfl⟩ (fun W0 hW0 => by (refine oM_gen (fun Kv hK => ?_)); simp [go_sem, hW0.cells]; (first | exact hK _ _ ⟨rfl, rfl⟩ | exact ⟨by omega, hK _ _ ⟨rfl, rfl⟩⟩)) ?_))
  | ((with_reducible refine idOH ?_); first|(with_reducible first|refine vA ?_|refine vB ?_|refine vC ?_|refine vD ?_|refine vE ?_|refine vF ?_|refine oH_nil ?_)|(with_reducible refine oH_of ⟨_, rfl⟩ (fun W0 hW0 => by (refine oM_gen (fun Kv hK => ?_)); simp [go_sem, hW0.cells]; (first | exact hK _ _ ⟨rfl, rfl⟩ | exact ⟨by omega, hK _ _ ⟨rfl, rfl⟩⟩)) ?_))
  | ((with_reducible refine idO ?_); (with_reducible refine oM_gen fun Kv hK=>?_); simp [go_sem]; (try simp (disch := omega) only [wrapI64, wrapU8, wrapU32, wrapU64]); (first|refine hK _ _ ?_|refine And.intro (by omega) (hK _ _ ?_)); clear hK; clear Kv)))
  refine ⟨?_, ?_⟩
  · repeat (any_goals (first
    | (with_reducible first|refine pureM_in ?_|((refine idGd ?_); first|refine zA ?_|refine zB ?_|refine zC ?_|refine zD ?_|refine zE ?_|((refine idGdD ?_); first|refine zF ?_|refine zG ?_|refine zH (fun hg=>?_) fun hg=>?_|refine zI ?_|refine zJ ?_|refine zK (fun hg=>?_) fun hg=>?_)|((refine idGdN ?_); first|refine zL ?_|refine zM ?_|refine zN (fun hg=>?_) fun hg=>?_|refine zO ?_|refine zP ?_|refine zQ (fun hg=>?_) fun hg=>?_)|refine zR ?_|refine zS ?_|refine zT ?_|refine zU ?_|refine zV ?_|refine zW ?_|refine zX (fun hg=>?_) fun hg=>?_|refine zY ?_|refine zZ ?_|refine yA (fun hg=>?_) fun hg=>?_)|((refine idPick ?_); first|refine yB ?_|refine yC ?_|refine yD ?_|refine yE ?_|refine yF ?_|refine yG ?_|refine yH ?_|refine yI ?_|refine yJ ?_|refine yK ?_)|((refine idCond ?_); first|refine yL ?_|refine yM ?_|refine yN ?_|refine yO ?_|refine yP (fun hg=>?_) fun hg=>?_|refine yQ ?_|refine yR ?_|refine yS (fun hg=>?_) fun hg=>?_|refine yT ?_|refine yU ?_|refine yV (fun hg=>?_) fun hg=>?_|refine yW ?_|refine yX ?_|refine yY (fun hg=>?_) fun hg=>?_))
    | ((with_reducible refine idO ?_); (with_reducible refine oM_gen fun Kv hK=>?_); simp [go_sem]; (try simp (disch := omega) only [wrapI64, wrapU8, wrapU32, wrapU64]); (first|refine hK _ _ ?_|refine And.intro (by omega) (hK _ _ ?_)); clear hK; clear Kv)))
    refine ⟨hk, ?_⟩
    refine ValidSetup_ok s (hs.next hk.below) (fun w2 h2 => ?_)
    have hk := hk.next h2
    refine ⟨hk, ?_⟩
    refine store_mine sz_desk rfl rfl hone hk (fun W3 hk hc => ?_)
    exact ⟨hk, hk, _, by simp [go_sem, hc], k _ hk.below⟩
  · refine ValidSetup_ok s (hs.next hk.below) (fun w2 h2 => ?_)
    have hk := hk.next h2
    refine ⟨hk, ?_⟩
    repeat (any_goals (first
    | (with_reducible first|refine pureM_in ?_|((refine idGd ?_); first|refine zA ?_|refine zB ?_|refine zC ?_|refine zD ?_|refine zE ?_|((refine idGdD ?_); first|refine zF ?_|refine zG ?_|refine zH (fun hg=>?_) fun hg=>?_|refine zI ?_|refine zJ ?_|refine zK (fun hg=>?_) fun hg=>?_)|((refine idGdN ?_); first|refine zL ?_|refine zM ?_|refine zN (fun hg=>?_) fun hg=>?_|refine zO ?_|refine zP ?_|refine zQ (fun hg=>?_) fun hg=>?_)|refine zR ?_|refine zS ?_|refine zT ?_|refine zU ?_|refine zV ?_|refine zW ?_|refine zX (fun hg=>?_) fun hg=>?_|refine zY ?_|refine zZ ?_|refine yA (fun hg=>?_) fun hg=>?_)|((refine idPick ?_); first|refine yB ?_|refine yC ?_|refine yD ?_|refine yE ?_|refine yF ?_|refine yG ?_|refine yH ?_|refine yI ?_|refine yJ ?_|refine yK ?_)|((refine idCond ?_); first|refine yL ?_|refine yM ?_|refine yN ?_|refine yO ?_|refine yP (fun hg=>?_) fun hg=>?_|refine yQ ?_|refine yR ?_|refine yS (fun hg=>?_) fun hg=>?_|refine yT ?_|refine yU ?_|refine yV (fun hg=>?_) fun hg=>?_|refine yW ?_|refine yX ?_|refine yY (fun hg=>?_) fun hg=>?_))
    | ((with_reducible refine idO ?_); (with_reducible refine oM_gen fun Kv hK=>?_); simp [go_sem]; (try simp (disch := omega) only [wrapI64, wrapU8, wrapU32, wrapU64]); (first|refine hK _ _ ?_|refine And.intro (by omega) (hK _ _ ?_)); clear hK; clear Kv)))
    refine ⟨hk, ?_⟩
    refine store_mine sz_desk rfl rfl hone hk (fun W3 hk hc => ?_)
    exact ⟨hk, hk, _, by simp [go_sem, hc], k _ hk.below⟩
end
end Go.Proofs
set_option linter.all false
namespace Go.Proofs
open Go.Shelf
def Tryz.laysNm2_21_ren : Go.Shelf.Ren := ⟨fun | 21 => 141 | 27 => 182 | 28 => 183 | 35 => 205 | 39 => 223 | n => n, fun | 22 => 22 | 3 => 3 | 4 => 4 | 0 => 0 | n => n, fun | n => n⟩
theorem Tryz.laysNm2_21 : Go.Proofs.Lays2.n21 Tryz.prog Tryz.laysNm2_21_ren := {
  mixed := by kernel_rfl
  f21 := Tryz.func141.trans (congrArg some (by kernel_rfl))
  f27 := Tryz.func182.trans (congrArg some (by kernel_rfl))
  f28 := Tryz.func183.trans (congrArg some (by kernel_rfl))
  f35 := Tryz.func205.trans (congrArg some (by kernel_rfl))
  f39 := Tryz.func223.trans (congrArg some (by kernel_rfl))
  t0 := Tryz.underlying0
  a0 := Tryz.isAgg0
  z0 := Tryz.sizeOf0
  v0 := Tryz.zeroValue0
  t3 := Tryz.underlying3
  a3 := Tryz.isAgg3
  z3 := Tryz.sizeOf3
  v3 := Tryz.zeroValue3
  t4 := Tryz.underlying4
  a4 := Tryz.isAgg4
  z4 := Tryz.sizeOf4
  v4 := Tryz.zeroValue4
  t22 := Tryz.underlying22
  a22 := Tryz.isAgg22
  z22 := Tryz.sizeOf22
  v22 := Tryz.zeroValue22
  i3 := by kernel_rfl }
end Go.Proofs
--G
namespace Go.Proofs
open Go Go.Sh Go.RowKit FdSpec TkSpec
set_option linter.unusedSimpArgs false
set_option linter.unusedVariables false
set_option maxRecDepth 10000
section
variable {K : Value → World → Prop} {w w0 : World} {L : List (Addr × Value)}
theorem eqNil_at {P : Program} {w : World} {K : Value → World → Prop} {t e T : TypeId} {a : Option Addr} {n c : Nat} (ht : P.underlying t = some (.slice e)) (k : K (.bool a.isNone) w) : oM P (.binOp .eql t (.tmp 0) (.const (.slice none 0 0)) t) T [.slice a n c] K w := by
  rw [oM_eqc]
  have := Lib.run_eql_slice_nil (P := P) w t e a n c 0 0 ht
  simp only [Sem.run_bind]
  have h2 : (eqGuard .eql t (.tmp 0) (.const (.slice none 0 0)) (.slice a n c) (.slice none 0 0)).run P w = .ok () w := by
    simp [eqGuard]
  rw [h2, Result.andThen_ok, this]
  exact k
theorem below_set {B : Nat} {a : World} (g : Nat) (hg : B ≤ g) : ∀ (vs : List Value) (o : Nat) (w : World), Below B a w → Below B a (w.setCells g o vs)
  | [], _, _, h => h
  | v :: r, o, w, h => below_set g hg r (o + 1) _ (h.setCell (p := ⟨g, o, none⟩) hg v)
theorem some_set (b : Nat) (vs : List Value) (o : Nat) (w : World) (h : ∀ j, j < vs.length → (w.cell? ⟨b, o + j, none⟩).isSome = true) (k : Nat) (hk : (w.cell? ⟨b, k, none⟩).isSome = true) : ((w.setCells b o vs).cell? ⟨b, k, none⟩).isSome = true := by
  by_cases hin : o ≤ k ∧ k < o + vs.length
  · have := World.cell?_setCells_in b vs o w h (k - o) (by omega)
    rw [show o + (k - o) = k by omega] at this
    rw [this]; rfl
  · rw [World.cell?_setCells_out b vs o w ⟨b, k, none⟩ (fun _ _ => by show k < o ∨ o + vs.length ≤ k; omega)]
    exact hk
theorem shifted1 {w : World} {g : Nat} {x : Value} {cs : List Value} (h : ∀ j, j < cs.length + 1 → (w.cell? ⟨g, j, none⟩).isSome = true) (k : Nat) (v : Value) (hk : (x :: cs)[k]? = some v) : ((w.setCells g 1 cs).setCells g 0 [x]).cell? ⟨g, k, none⟩ = some v := by
  have h1 : ∀ j, j < cs.length → (w.cell? ⟨g, 1 + j, none⟩).isSome = true := fun j hj => h _ (by omega)
  cases k with
  | zero =>
    have := World.cell?_setCells_in g [x] 0 (w.setCells g 1 cs) (fun j hj => by
      have : j = 0 := by simpa using hj
      subst this
      exact some_set g cs 1 w h1 0 (h 0 (by omega))) 0 (by simp)
    rw [this]
    simpa using hk
  | succ k =>
    have hlt : k < cs.length := by
      have := (List.getElem?_eq_some_iff.1 hk).1
      simpa using this
    rw [World.cell?_setCells_out g [x] 0 _ ⟨g, k + 1, none⟩ (fun _ _ => by show k + 1 < 0 ∨ 0 + 1 ≤ k + 1; omega)]
    have := World.cell?_setCells_in g cs 1 w h1 k hlt
    rw [show k + 1 = 1 + k by omega, this, ← hk]
    simp [hlt]
theorem shifted2 {w : World} {g : Nat} {x : Value} {cs : List Value} (h : ∀ j, j < cs.length + 1 → (w.cell? ⟨g, j, none⟩).isSome = true) (k : Nat) (v : Value) (hk : (x :: cs)[k]? = some v) : ((w.setCells g 0 [x]).setCells g 1 cs).cell? ⟨g, k, none⟩ = some v := by
  have h1 : ∀ j, j < [x].length → (w.cell? ⟨g, 0 + j, none⟩).isSome = true := fun j hj => h _ (by simp at hj; omega)
  cases k with
  | zero =>
    rw [World.cell?_setCells_out g cs 1 _ ⟨g, 0, none⟩ (fun _ _ => by show 0 < 1 ∨ 1 + cs.length ≤ 0; omega)]
    have := World.cell?_setCells_in g [x] 0 w h1 0 (by simp)
    rw [this]
    simpa using hk
  | succ k =>
    have hlt : k < cs.length := by
      have := (List.getElem?_eq_some_iff.1 hk).1
      simpa using this
    have := World.cell?_setCells_in g cs 1 (w.setCells g 0 [x]) (fun j hj => some_set g [x] 0 w h1 (1 + j) (h _ (by omega))) k hlt
    rw [show k + 1 = 1 + k by omega, this, ← hk]
    simp [hlt]
theorem Clone_ok {v : Value} {l : List Int} (hr : Ints w v l) (hl : l.length < 1099511627776) (k : ∀ v' w', w'.ownsRow 0 3 1 v' l.length (flat intC l) → Below w.heap.size w w' → (∀ i, v'.ownBlock = some i → w.heap.size ≤ i) → K v' w') : callM Tryz.prog 142 #[v] K w := by
  apply sh_142_ok
  unfold sh_142
  have hi := hr.row
  obtain ⟨ad, c, rfl, h0, hc⟩ := id hi
  refine eqNil_at (e := 3) (by kernel_rfl) ?_
  cases ad with
  | none =>
    obtain ⟨hl0, rfl⟩ := h0 rfl
    obtain rfl : l = [] := List.eq_nil_of_length_eq_zero hl0
    simp only [Option.isNone_none]
    repeat (any_goals (first
    | (with_reducible first|refine pureM_in ?_|((refine idGd ?_); first|refine zA ?_|refine zB ?_|refine zC ?_|refine zD ?_|refine zE ?_|((refine idGdD ?_); first|refine zF ?_|refine zG ?_|refine zH (fun hg=>?_) fun hg=>?_|refine zI ?_|refine zJ ?_|refine zK (fun hg=>?_) fun hg=>?_)|((refine idGdN ?_); first|refine zL ?_|refine zM ?_|refine zN (fun hg=>?_) fun hg=>?_|refine zO ?_|refine zP ?_|refine zQ (fun hg=>?_) fun hg=>?_)|refine zR ?_|refine zS ?_|refine zT ?_|refine zU ?_|refine zV ?_|refine zW ?_|refine zX (fun hg=>?_) fun hg=>?_|refine zY ?_|refine zZ ?_|refine yA (fun hg=>?_) fun hg=>?_)|((refine idPick ?_); first|refine yB ?_|refine yC ?_|refine yD ?_|refine yE ?_|refine yF ?_|refine yG ?_|refine yH ?_|refine yI ?_|refine yJ ?_|refine yK ?_)|((refine idCond ?_); first|refine yL ?_|refine yM ?_|refine yN ?_|refine yO ?_|refine yP (fun hg=>?_) fun hg=>?_|refine yQ ?_|refine yR ?_|refine yS (fun hg=>?_) fun hg=>?_|refine yT ?_|refine yU ?_|refine yV (fun hg=>?_) fun hg=>?_|refine yW ?_|refine yX ?_|refine yY (fun hg=>?_) fun hg=>?_))
    | ((with_reducible refine idO ?_); (with_reducible refine oM_gen fun Kv hK=>?_); simp [go_sem]; (try simp (disch := omega) only [wrapI64, wrapU8, wrapU32, wrapU64]); (first|refine hK _ _ ?_|refine And.intro (by omega) (hK _ _ ?_)); clear hK; clear Kv)))
    exact k _ _ (World.ownsRow_nil _ _ _ _) (Below.refl _ _) (fun i hi => by cases hi)
  | some a =>
    simp only [Option.isNone_some]
    repeat (any_goals (first
    | (with_reducible first|refine pureM_in ?_|((refine idGd ?_); first|refine zA ?_|refine zB ?_|refine zC ?_|refine zD ?_|refine zE ?_|((refine idGdD ?_); first|refine zF ?_|refine zG ?_|refine zH (fun hg=>?_) fun hg=>?_|refine zI ?_|refine zJ ?_|refine zK (fun hg=>?_) fun hg=>?_)|((refine idGdN ?_); first|refine zL ?_|refine zM ?_|refine zN (fun hg=>?_) fun hg=>?_|refine zO ?_|refine zP ?_|refine zQ (fun hg=>?_) fun hg=>?_)|refine zR ?_|refine zS ?_|refine zT ?_|refine zU ?_|refine zV ?_|refine zW ?_|refine zX (fun hg=>?_) fun hg=>?_|refine zY ?_|refine zZ ?_|refine yA (fun hg=>?_) fun hg=>?_)|((refine idPick ?_); first|refine yB ?_|refine yC ?_|refine yD ?_|refine yE ?_|refine yF ?_|refine yG ?_|refine yH ?_|refine yI ?_|refine yJ ?_|refine yK ?_)|((refine idCond ?_); first|refine yL ?_|refine yM ?_|refine yN ?_|refine yO ?_|refine yP (fun hg=>?_) fun hg=>?_|refine yQ ?_|refine yR ?_|refine yS (fun hg=>?_) fun hg=>?_|refine yT ?_|refine yU ?_|refine yV (fun hg=>?_) fun hg=>?_|refine yW ?_|refine yX ?_|refine yY (fun hg=>?_) fun hg=>?_))
    | ((with_reducible refine idO ?_); (with_reducible refine oM_gen fun Kv hK=>?_); simp [go_sem]; (try simp (disch := omega) only [wrapI64, wrapU8, wrapU32, wrapU64]); (first|refine hK _ _ ?_|refine And.intro (by omega) (hK _ _ ?_)); clear hK; clear Kv)))
    have hr2 : RowR intC 1 (w.alloc (.cells #[] 3)) (.slice (some a) l.length c) l := hi.keep (by rw [alloc_size]; omega) (fun i _ hi => heap_alloc_old _ _ hi)
    refine clone_at 22 22 3 ((Tryz.prog.info? 3).getD default) (.int .i64 0) 1 8 (by kernel_rfl) (by kernel_rfl) (by kernel_rfl) (by kernel_rfl) (by kernel_rfl) (by kernel_rfl) (by omega) (fun _ => rfl) (fun x u hu => by simp [intC] at hu; subst hu; rfl) hr2 (World.ownsRow_lit w #[] 0 (Nat.zero_le _) (Nat.zero_le _) rfl) (B := w.heap.size) (by rw [alloc_size]; omega) (fun i hi => by cases hi; exact Nat.le_refl _) (by omega) (by omega) ?_
    intro v' w' ho hg hv
    exact k v' w' ho (((Below.refl _ _).alloc (Nat.le_refl _) _).grown hg (by rw [alloc_size]; omega) (fun i hi => by cases hi; exact Nat.le_refl _)) hv
theorem Insert_ok {g c : Nat} {l : List Int} {x : Int} {b : Nat} (hne : 0 < l.length) (hl : l.length < 1099511627776) (ho : w.ownsRow 0 3 1 (.slice (some ⟨g, 0, none⟩) l.length c) l.length (flat intC l)) {B : Nat} (hB : B ≤ g) (hBw : B ≤ w.heap.size)
    (hx : w.heap[b]? = some (.cells #[.int .i64 x] 3 (0, 0))) (hbg : b ≠ g) (hr : ∀ n ∈ l, I64 n) (hrx : I64 x) (k : ∀ v' w', Ints w' v' (x :: l) → Below B w w' → (∀ i, Value.inBlock v' = some i → B ≤ i) → K v' w') :
    callM Tryz.prog 141 #[.slice (some ⟨g, 0, none⟩) l.length c, .int .i64 0, .slice (some ⟨b, 0, none⟩) 1 1] K w := by
  obtain ⟨g', cap, cur, hv, hgw, _, hgb, hcs, hcap, hcell⟩ := owns_cells ho hne
  cases hv
  have hxc : ∀ (j : Nat) (v : Value), [Value.int .i64 x][j]? = some v → w.cell? ⟨b, 0 + j, none⟩ = some v := by
    intro j v hj
    rw [cell_of_block hx]
    simpa using hj
  have hcc : ∀ (j : Nat) (v : Value), (flat intC l)[j]? = some v → w.cell? ⟨g, 0 + j, none⟩ = some v := by
    intro j v hj
    rw [Nat.zero_add]
    exact hcell j v hj
  have h1 : ∀ v ∈ flat intC l, v.oneCell' = true := by
    intro v hv
    rw [flat_int] at hv
    obtain ⟨n, _, rfl⟩ := List.mem_map.1 hv
    rfl
  have h1x : ∀ v ∈ [Value.int .i64 x], v.oneCell' = true := by
    intro v hv
    simp at hv
    subst hv
    rfl
  have hfl : (flat intC l).length = l.length := by rw [flat_int]; simp
  have hbw : b < w.heap.size := (Array.getElem?_eq_some_iff.1 hx).1
  have hxx : ∀ n ∈ x :: l, I64 n := by
    intro n hn
    rcases List.mem_cons.1 hn with rfl | hn
    · exact hrx
    · exact hr n hn
  have hlx : (flat intC (x :: l)) = .int .i64 x :: flat intC l := rfl
  have hcm : c ≤ 9223372036854775807 := by
    rcases ho.2 with ⟨h0, _⟩ | ⟨g2, cap2, cur2, hv2, _, _, _, hm2, _⟩
    · cases h0
    · cases hv2
      simp only [maxLen] at hm2
      omega
  by_cases hroom : l.length + 1 ≤ c
  · have hsm : ∀ j, j < l.length + 1 → (w.cell? ⟨g, j, none⟩).isSome = true := by
      intro j hj
      rw [cell_of_block hgb]
      simp
      omega
    have h := Any2.slices_Insert_int_shift Tryz.laysNm2_21 g 0 l.length c 0 b 0 1 1 (flat intC l) [.int .i64 x] w (by omega) (by omega) hroom hcm hbg hfl rfl hcc (fun j hj => by rw [Nat.zero_add]; exact hsm j hj)
      (fun j hj => by unfold World.frozen?; rw [hgb]; simp) hxc h1 h1x 3 3 1 cur.size (by unfold World.shape?; rw [hx]; rfl) (by unfold World.shape?; rw [hgb]) (by omega) (by unfold World.frozen?; rw [hx]; simp) (by unfold World.frozen?; rw [hx]; simp)
    refine Calls.mono h ?_
    rintro e w' ⟨rfl, rfl⟩
    have hb2 : ∀ B' : Nat, B' ≤ g → Below B' w ((w.drew.setCells g (0 + (0 + 1)) (List.drop 0 (flat intC l))).setCells g (0 + 0) [Value.int .i64 x]) := fun B' hB' =>
      below_set g hB' _ _ _ (below_set g hB' _ _ _ (Below.refl _ w).drew)
    refine ⟨_, rfl, k _ _ ⟨⟨_, c, rfl, by simp, .inr ⟨g, 0, rfl, Nat.lt_of_lt_of_le hgw (hb2 0 (Nat.zero_le _)).size, fun j v hj => ?_⟩⟩, hxx, by simp; omega⟩ (hb2 B hB) (fun i hi => by cases hi; exact hB)⟩
    simp only [Nat.zero_add, Nat.add_zero, List.drop_zero]
    rw [hlx] at hj
    exact shifted1 (w := w.drew) (fun j hj => hsm j (by rw [hfl] at hj; exact hj)) j v hj
  · have h := Any2.slices_Insert_int_grow Tryz.laysNm2_21 g 0 l.length c 0 b 0 1 1 (flat intC l) [.int .i64 x] w (by omega) (by omega) (by omega) (by omega) (by omega) hfl rfl hcc hxc h1 h1x
    refine Calls.mono h ?_
    rintro e w' ⟨rfl, rfl⟩
    have hG := grownCap_ge w (l.length + 1) c 3
    have e3 : Tryz.laysNm2_21_ren.t 3 = 3 := rfl
    rw [e3]
    generalize grownCap w (l.length + 1) c 3 = G at *
    simp only [List.take_zero, List.drop_zero, Nat.zero_add, Nat.add_zero, Nat.sub_zero]
    have hsm : ∀ j, j < (flat intC l).length + 1 → ((w.alloc (.cells (([] : List Value).toArray ++ Builtin.zeroCells (Value.int .i64 0).cells (l.length + 1) ++ Builtin.zeroCells (Value.int .i64 0).cells (G - (l.length + 1))) 3)).drew.cell? ⟨w.heap.size, j, none⟩).isSome = true := by
      intro j hj
      rw [hfl] at hj
      have := World.cell?_alloc_at (w := w) (([] : List Value).toArray ++ Builtin.zeroCells (Value.int .i64 0).cells (l.length + 1) ++ Builtin.zeroCells (Value.int .i64 0).cells (G - (l.length + 1))) 3 w.heap.size j rfl
      show (World.cell? _ _).isSome = true
      refine (congrArg Option.isSome this).trans ?_
      rw [Array.getElem?_eq_getElem (by simp [Builtin.zeroCells, Value.cells]; omega)]
      rfl
    generalize hW : w.alloc (.cells (([] : List Value).toArray ++ Builtin.zeroCells (Value.int .i64 0).cells (l.length + 1) ++ Builtin.zeroCells (Value.int .i64 0).cells (G - (l.length + 1))) 3) = W at *
    have hbW : Below w.heap.size w W := by rw [← hW]; exact (Below.refl _ w).alloc (Nat.le_refl _) _
    have hWs : w.heap.size < W.heap.size := by rw [← hW, alloc_size]; omega
    have hb2 : Below w.heap.size w (((W.drew.setCells w.heap.size 0 [Value.int .i64 x]).drew).setCells w.heap.size 1 (flat intC l)) :=
      below_set _ (Nat.le_refl _) _ _ _ (below_set _ (Nat.le_refl _) _ _ _ hbW.drew).drew
    have hs2 : w.heap.size < (((W.drew.setCells w.heap.size 0 [Value.int .i64 x]).drew).setCells w.heap.size 1 (flat intC l)).heap.size :=
      Nat.lt_of_lt_of_le hWs (below_set w.heap.size (Nat.zero_le _) _ _ _ (below_set w.heap.size (Nat.zero_le _) _ _ _ (Below.refl 0 W).drew).drew).size
    refine ⟨_, rfl, k _ _ ⟨⟨_, G, rfl, by simp, .inr ⟨_, 0, rfl, hs2, fun j v hj => ?_⟩⟩, hxx, by simp; omega⟩ (hb2.mono hBw) (fun i hi => by cases hi; exact hBw)⟩
    rw [Nat.zero_add]
    rw [hlx] at hj
    rw [drew_setCells]
    exact shifted2 (w := W.drew.drew) (g := w.heap.size) (x := .int .i64 x) (cs := flat intC l) hsm j v hj
end
end Go.Proofs
--G
namespace Go.Proofs
open Go Go.Sh Go.RowKit FdSpec TkSpec
set_option linter.unusedSimpArgs false
set_option linter.unusedVariables false
set_option maxRecDepth 10000
section
variable {K : Value → World → Prop} {w w0 : World} {L : List (Addr × Value)}
theorem exps_ok {v : Value} {l : List Int} (hl : Ints w v l) (hne : 0 < l.length) (hln : l.length < 1099511627776) (k : ∀ v' w', Ints w' v' (expsM l) → Below w.heap.size w w' → (∀ i, Value.inBlock v' = some i → w.heap.size ≤ i) → K v' w') : callM Tryz.prog 73 #[v] K w := by
  apply sh_73_ok
  unfold sh_73
  refine Clone_ok hl hln (fun v1 w1 ho hb hv => ?_)
  obtain ⟨g, cap, cur, rfl, hgw, _, hgb, hcs, hcap, hcell⟩ := owns_cells ho hne
  have hg := hv g rfl
  have e : (Instr.buildSlice 22 1 #[(0, .int .i64 1)]).run Tryz.prog w1 = .ok (.slice (some ⟨w1.heap.size, 0, none⟩) 1 1) (w1.alloc (.cells #[.int .i64 1] 3)) := by kernel_rfl
  rw [oM_buildSlice1, e, rM_ok]
  have hb2 := (Below.refl w1.heap.size w1).alloc (Nat.le_refl _) (.cells #[.int .i64 1] 3)
  refine Insert_ok (x := 1) (B := w.heap.size) hne hln (ho.alloc _) hg (by rw [alloc_size]; have := hb.size; omega) (b := w1.heap.size) (by show (w1.heap.push _)[w1.heap.size]? = _; exact Array.getElem?_push_size) (by omega) hl.rng (by unfold I64; omega) (fun v' w' hi hbb hff => ?_)
  exact k _ _ hi ((hb.on hb2).trans hbb) hff
theorem markM_no {s : Stp} {l : List Int} (h : validS s = false ∨ l.length + 1 ≠ s.bases.length ∨ numsM s 0 l = false ∨ l.headD 0 = 0) : markM s l = (0, false) := by
  unfold markM
  rw [if_neg]
  intro hc
  simp only [Bool.and_eq_true, decide_eq_true_eq, Bool.not_eq_true', decide_eq_false_iff_not] at hc
  obtain ⟨⟨⟨h1, h2⟩, h3⟩, h4⟩ := hc
  rcases h with h | h | h | h
  · rw [h] at h1; cases h1
  · exact h h2
  · rw [h] at h3; cases h3
  · exact h4 h
theorem markM_yes {s : Stp} {l : List Int} (h1 : validS s = true) (h2 : l.length + 1 = s.bases.length) (h3 : numsM s 0 l = true) (h4 : l.headD 0 ≠ 0) : markM s l = ((prodG s.g s.bases (expsM l)).1, true) := by
  unfold markM
  rw [if_pos]
  simp only [Bool.and_eq_true, decide_eq_true_eq, Bool.not_eq_true', decide_eq_false_iff_not]
  exact ⟨⟨⟨h1, h2⟩, h3⟩, h4⟩
theorem local_desk {K : Value → World → Prop} {T' T2 : TypeId} {g n : Nat} (s : Stp) (ad : Option Addr) (m c : Nat) (hk : KnM w0 L g n w)
    (k : ∀ b W, KnM w0 (cellsOf L b 0 (stpC s (.slice ad m c))) g n W → Below w.heap.size w W → w.heap.size ≤ b → K (.pointer (some ⟨b, 0, none⟩)) W) :
    oM Tryz.prog (.alloc 111) T' [] (fun v w => oM Tryz.prog (.store 111 (.tmp 0) (.tmp 1)) T2 [v, stpV s (.slice ad m c)] (fun _ w => K v w) w) w :=
  local_knm al_desk rfl sz_desk rfl rfl (stp_one s ad m c) hk k
theorem local_desk' {K : Value → World → Prop} {T' T2 : TypeId} (s : Stp) (ad : Option Addr) (m c : Nat) (hk : Kn w0 L w)
    (k : ∀ b W, Kn w0 (cellsOf L b 0 (stpC s (.slice ad m c))) W → Below w.heap.size w W → w.heap.size ≤ b → K (.pointer (some ⟨b, 0, none⟩)) W) :
    oM Tryz.prog (.alloc 111) T' [] (fun v w => oM Tryz.prog (.store 111 (.tmp 0) (.tmp 1)) T2 [v, stpV s (.slice ad m c)] (fun _ w => K v w) w) w :=
  local_kn al_desk rfl sz_desk rfl rfl (stp_one s ad m c) hk k
theorem validS_len {s : Stp} (h : validS s = true) : 2 ≤ s.bases.length ∧ s.bases.length ≤ 7 := by
  unfold validS at h
  simp only [Bool.and_eq_true, decide_eq_true_eq] at h
  exact ⟨h.1.1.1.2, h.1.1.2⟩
theorem store_desk {K : Value → World → Prop} {T' : TypeId} {g : Nat} (s : Stp) (ad : Option Addr) (m c : Nat) (hk : KnM w0 L g 5 w)
    (k : ∀ W, KnM w0 L g 5 W → cellsAre W (cellsOf [] g 0 (stpC s (.slice ad m c))) → K undef W) : oM Tryz.prog (.store 111 (.tmp 0) (.tmp 1)) T' [.pointer (some ⟨g, 0, none⟩), stpV s (.slice ad m c)] K w :=
  store_mine sz_desk rfl rfl (stp_one s ad m c) hk k
theorem _root_.Go.Sh.Ints.headD {w : World} {ad : Option Addr} {n c : Nat} {l : List Int} (h : Ints w (.slice ad n c) l) (hne : 0 < l.length) :
    ∃ b o, ad = some ⟨b, o, none⟩ ∧ (∀ w', Below w.heap.size w w' → w'.cell? ⟨b, o, none⟩ = some (.int .i64 (l.headD 0))) ∧ I64 (l.headD 0) := by
  obtain ⟨b, o, rfl, _, hc, hr, _⟩ := h.at hne
  have e : l[0] = l.headD 0 := by
    cases l with
    | nil => simp at hne
    | cons a l => rfl
  rw [e] at hc hr
  exact ⟨b, o, rfl, fun w' hb => by have := hc w' hb; simpa using this, hr⟩
theorem mark_ok (s : Stp) {v lv : Value} {l : List Int} (hs : SetR w s v) (hl : Ints w lv l) (k : ∀ w', Below w.heap.size w w' → K (.tuple #[stpV s v, .int .i64 (markM s l).1, .bool (markM s l).2]) w') : callM Tryz.prog 95 #[stpV s v, lv] K w := by
  apply sh_95_ok
  unfold sh_95
  obtain ⟨ad, c, rfl⟩ := hs.ints.isSlice
  have hone := stp_one s ad s.bases.length c
  have k2 : ∀ w' r, markM s l = r → Below w.heap.size w w' → K (.tuple #[stpV s (.slice ad s.bases.length c), .int .i64 r.1, .bool r.2]) w' := fun w' r e hb => by rw [← e]; exact k w' hb
  clear k
  refine box_kn (cs := stpC s (.slice ad s.bases.length c)) rfl (.start w) fun b W hk hb1 hb => ?_
  refine alloc_mine al_desk rfl hk fun g W2 hk hb2 hg => ?_
  repeat (any_goals (first
  | (with_reducible first|refine pureM_in ?_|((refine idGd ?_); first|refine zA ?_|refine zB ?_|refine zC ?_|refine zD ?_|refine zE ?_|((refine idGdD ?_); first|refine zF ?_|refine zG ?_|refine zH (fun hg=>?_) fun hg=>?_|refine zI ?_|refine zJ ?_|refine zK (fun hg=>?_) fun hg=>?_)|((refine idGdN ?_); first|refine zL ?_|refine zM ?_|refine zN (fun hg=>?_) fun hg=>?_|refine zO ?_|refine zP ?_|refine zQ (fun hg=>?_) fun hg=>?_)|refine zR ?_|refine zS ?_|refine zT ?_|refine zU ?_|refine zV ?_|refine zW ?_|refine zX (fun hg=>?_) fun hg=>?_|refine zY ?_|refine zZ ?_|refine yA (fun hg=>?_) fun hg=>?_)|((refine idPick ?_); first|refine yB ?_|refine yC ?_|refine yD ?_|refine yE ?_|refine yF ?_|refine yG ?_|refine yH ?_|refine yI ?_|refine yJ ?_|refine yK ?_)|((refine idCond ?_); first|refine yL ?_|refine yM ?_|refine yN ?_|refine yO ?_|refine yP (fun hg=>?_) fun hg=>?_|refine yQ ?_|refine yR ?_|refine yS (fun hg=>?_) fun hg=>?_|refine yT ?_|refine yU ?_|refine yV (fun hg=>?_) fun hg=>?_|refine yW ?_|refine yX ?_|refine yY (fun hg=>?_) fun hg=>?_))
  | ((with_reducible refine idO ?_); (with_reducible refine oM_gen fun Kv hK=>?_); simp [go_sem, hk.cells]; (try simp (disch := omega) only [wrapI64, wrapU8, wrapU32, wrapU64]); (first|refine hK _ _ ?_|refine And.intro (by omega) (hK _ _ ?_)); clear hK; clear Kv)))
  refine open_ok s (hs.next hk.below) (fun w2 h2 => ?_)
  have hk := hk.next h2
  clear h2 hb1 hb2
  have hll := hl.len
  have hbl := hs.ints.len
  obtain ⟨lad, lc, rfl⟩ := hl.isSlice
  cases hv : validS s with
  | false =>
    repeat (any_goals (first
    | ((with_reducible refine local_desk s ad s.bases.length c hk ?_); intro b7 W7 hk hb7 hg7)
    | (with_reducible first|refine pureM_in ?_|((refine idGd ?_); first|refine zA ?_|refine zB ?_|refine zC ?_|refine zD ?_|refine zE ?_|((refine idGdD ?_); first|refine zF ?_|refine zG ?_|refine zH (fun hg=>?_) fun hg=>?_|refine zI ?_|refine zJ ?_|refine zK (fun hg=>?_) fun hg=>?_)|((refine idGdN ?_); first|refine zL ?_|refine zM ?_|refine zN (fun hg=>?_) fun hg=>?_|refine zO ?_|refine zP ?_|refine zQ (fun hg=>?_) fun hg=>?_)|refine zR ?_|refine zS ?_|refine zT ?_|refine zU ?_|refine zV ?_|refine zW ?_|refine zX (fun hg=>?_) fun hg=>?_|refine zY ?_|refine zZ ?_|refine yA (fun hg=>?_) fun hg=>?_)|((refine idPick ?_); first|refine yB ?_|refine yC ?_|refine yD ?_|refine yE ?_|refine yF ?_|refine yG ?_|refine yH ?_|refine yI ?_|refine yJ ?_|refine yK ?_)|((refine idCond ?_); first|refine yL ?_|refine yM ?_|refine yN ?_|refine yO ?_|refine yP (fun hg=>?_) fun hg=>?_|refine yQ ?_|refine yR ?_|refine yS (fun hg=>?_) fun hg=>?_|refine yT ?_|refine yU ?_|refine yV (fun hg=>?_) fun hg=>?_|refine yW ?_|refine yX ?_|refine yY (fun hg=>?_) fun hg=>?_))
    | ((with_reducible refine idO ?_); (with_reducible refine oM_gen fun Kv hK=>?_); simp [go_sem, hk.cells]; (try simp (disch := omega) only [wrapI64, wrapU8, wrapU32, wrapU64]); (first|refine hK _ _ ?_|refine And.intro (by omega) (hK _ _ ?_)); clear hK; clear Kv)))
    refine store_desk s ad _ c hk (fun W3 hk hc => ⟨_, by simp [go_sem, hc], k2 _ _ (markM_no (.inl hv)) hk.below⟩)
  | true =>
    have hlen := validS_len hv
    repeat (any_goals (first
    | ((with_reducible refine local_desk s ad s.bases.length c hk ?_); intro b7 W7 hk hb7 hg7)
    | (with_reducible first|refine pureM_in ?_|((refine idGd ?_); first|refine zA ?_|refine zB ?_|refine zC ?_|refine zD ?_|refine zE ?_|((refine idGdD ?_); first|refine zF ?_|refine zG ?_|refine zH (fun hg=>?_) fun hg=>?_|refine zI ?_|refine zJ ?_|refine zK (fun hg=>?_) fun hg=>?_)|((refine idGdN ?_); first|refine zL ?_|refine zM ?_|refine zN (fun hg=>?_) fun hg=>?_|refine zO ?_|refine zP ?_|refine zQ (fun hg=>?_) fun hg=>?_)|refine zR ?_|refine zS ?_|refine zT ?_|refine zU ?_|refine zV ?_|refine zW ?_|refine zX (fun hg=>?_) fun hg=>?_|refine zY ?_|refine zZ ?_|refine yA (fun hg=>?_) fun hg=>?_)|((refine idPick ?_); first|refine yB ?_|refine yC ?_|refine yD ?_|refine yE ?_|refine yF ?_|refine yG ?_|refine yH ?_|refine yI ?_|refine yJ ?_|refine yK ?_)|((refine idCond ?_); first|refine yL ?_|refine yM ?_|refine yN ?_|refine yO ?_|refine yP (fun hg=>?_) fun hg=>?_|refine yQ ?_|refine yR ?_|refine yS (fun hg=>?_) fun hg=>?_|refine yT ?_|refine yU ?_|refine yV (fun hg=>?_) fun hg=>?_|refine yW ?_|refine yX ?_|refine yY (fun hg=>?_) fun hg=>?_))
    | ((with_reducible refine idO ?_); (with_reducible refine oM_gen fun Kv hK=>?_); simp [go_sem, hk.cells]; (try simp (disch := omega) only [wrapI64, wrapU8, wrapU32, wrapU64]); (first|refine hK _ _ ?_|refine And.intro (by omega) (hK _ _ ?_)); clear hK; clear Kv)))
    · refine nums_ok s 0 (hs.next hk.below) (hl.next hk.below) (fun w3 h3 => ?_)
      have hk := hk.next h3
      obtain ⟨b8, o8, rfl, c8, r8⟩ := hl.headD (by omega)
      obtain ⟨x0, hx0⟩ : ∃ x0, l.headD 0 = x0 := ⟨_, rfl⟩
      rw [hx0] at c8 r8
      cases hn : numsM s 0 l with
      | false =>
        repeat (any_goals (first
        | (with_reducible first|refine pureM_in ?_|((refine idGd ?_); first|refine zA ?_|refine zB ?_|refine zC ?_|refine zD ?_|refine zE ?_|((refine idGdD ?_); first|refine zF ?_|refine zG ?_|refine zH (fun hg=>?_) fun hg=>?_|refine zI ?_|refine zJ ?_|refine zK (fun hg=>?_) fun hg=>?_)|((refine idGdN ?_); first|refine zL ?_|refine zM ?_|refine zN (fun hg=>?_) fun hg=>?_|refine zO ?_|refine zP ?_|refine zQ (fun hg=>?_) fun hg=>?_)|refine zR ?_|refine zS ?_|refine zT ?_|refine zU ?_|refine zV ?_|refine zW ?_|refine zX (fun hg=>?_) fun hg=>?_|refine zY ?_|refine zZ ?_|refine yA (fun hg=>?_) fun hg=>?_)|((refine idPick ?_); first|refine yB ?_|refine yC ?_|refine yD ?_|refine yE ?_|refine yF ?_|refine yG ?_|refine yH ?_|refine yI ?_|refine yJ ?_|refine yK ?_)|((refine idCond ?_); first|refine yL ?_|refine yM ?_|refine yN ?_|refine yO ?_|refine yP (fun hg=>?_) fun hg=>?_|refine yQ ?_|refine yR ?_|refine yS (fun hg=>?_) fun hg=>?_|refine yT ?_|refine yU ?_|refine yV (fun hg=>?_) fun hg=>?_|refine yW ?_|refine yX ?_|refine yY (fun hg=>?_) fun hg=>?_))
        | ((with_reducible refine idO ?_); (with_reducible refine oM_gen fun Kv hK=>?_); simp [go_sem, hk.cells]; (try simp (disch := omega) only [wrapI64, wrapU8, wrapU32, wrapU64]); (first|refine hK _ _ ?_|refine And.intro (by omega) (hK _ _ ?_)); clear hK; clear Kv)))
        refine store_desk s ad _ c hk (fun W3 hk hc => ⟨_, by simp [go_sem, hc], k2 _ _ (markM_no (.inr (.inr (.inl hn)))) hk.below⟩)
      | true =>
        by_cases h0 : x0 = 0
        · repeat (any_goals (first
          | (with_reducible first|refine pureM_in ?_|((refine idGd ?_); first|refine zA ?_|refine zB ?_|refine zC ?_|refine zD ?_|refine zE ?_|((refine idGdD ?_); first|refine zF ?_|refine zG ?_|refine zH (fun hg=>?_) fun hg=>?_|refine zI ?_|refine zJ ?_|refine zK (fun hg=>?_) fun hg=>?_)|((refine idGdN ?_); first|refine zL ?_|refine zM ?_|refine zN (fun hg=>?_) fun hg=>?_|refine zO ?_|refine zP ?_|refine zQ (fun hg=>?_) fun hg=>?_)|refine zR ?_|refine zS ?_|refine zT ?_|refine zU ?_|refine zV ?_|refine zW ?_|refine zX (fun hg=>?_) fun hg=>?_|refine zY ?_|refine zZ ?_|refine yA (fun hg=>?_) fun hg=>?_)|((refine idPick ?_); first|refine yB ?_|refine yC ?_|refine yD ?_|refine yE ?_|refine yF ?_|refine yG ?_|refine yH ?_|refine yI ?_|refine yJ ?_|refine yK ?_)|((refine idCond ?_); first|refine yL ?_|refine yM ?_|refine yN ?_|refine yO ?_|refine yP (fun hg=>?_) fun hg=>?_|refine yQ ?_|refine yR ?_|refine yS (fun hg=>?_) fun hg=>?_|refine yT ?_|refine yU ?_|refine yV (fun hg=>?_) fun hg=>?_|refine yW ?_|refine yX ?_|refine yY (fun hg=>?_) fun hg=>?_))
          | ((with_reducible refine idO ?_); (with_reducible refine oM_gen fun Kv hK=>?_); simp [go_sem, hk.cells, c8 _ hk.below, h0]; (try simp (disch := omega) only [wrapI64, wrapU8, wrapU32, wrapU64]); (first|refine hK _ _ ?_|refine And.intro (by omega) (hK _ _ ?_)); clear hK; clear Kv)))
          refine store_desk s ad _ c hk (fun W3 hk hc => ⟨_, by simp [go_sem, hc], k2 _ _ (markM_no (.inr (.inr (.inr (hx0.trans h0))))) hk.below⟩)
        · repeat (any_goals (first
          | (with_reducible first|refine pureM_in ?_|((refine idGd ?_); first|refine zA ?_|refine zB ?_|refine zC ?_|refine zD ?_|refine zE ?_|((refine idGdD ?_); first|refine zF ?_|refine zG ?_|refine zH (fun hg=>?_) fun hg=>?_|refine zI ?_|refine zJ ?_|refine zK (fun hg=>?_) fun hg=>?_)|((refine idGdN ?_); first|refine zL ?_|refine zM ?_|refine zN (fun hg=>?_) fun hg=>?_|refine zO ?_|refine zP ?_|refine zQ (fun hg=>?_) fun hg=>?_)|refine zR ?_|refine zS ?_|refine zT ?_|refine zU ?_|refine zV ?_|refine zW ?_|refine zX (fun hg=>?_) fun hg=>?_|refine zY ?_|refine zZ ?_|refine yA (fun hg=>?_) fun hg=>?_)|((refine idPick ?_); first|refine yB ?_|refine yC ?_|refine yD ?_|refine yE ?_|refine yF ?_|refine yG ?_|refine yH ?_|refine yI ?_|refine yJ ?_|refine yK ?_)|((refine idCond ?_); first|refine yL ?_|refine yM ?_|refine yN ?_|refine yO ?_|refine yP (fun hg=>?_) fun hg=>?_|refine yQ ?_|refine yR ?_|refine yS (fun hg=>?_) fun hg=>?_|refine yT ?_|refine yU ?_|refine yV (fun hg=>?_) fun hg=>?_|refine yW ?_|refine yX ?_|refine yY (fun hg=>?_) fun hg=>?_))
          | ((with_reducible refine idO ?_); (with_reducible refine oM_gen fun Kv hK=>?_); simp [go_sem, hk.cells, c8 _ hk.below, h0]; (try simp (disch := omega) only [wrapI64, wrapU8, wrapU32, wrapU64]); (first|refine hK _ _ ?_|refine And.intro (by omega) (hK _ _ ?_)); clear hK; clear Kv)))
          have em := markM_yes hv (by omega) hn (by rw [hx0]; exact h0)
          refine ⟨KnM w _ g 5, hk.drew, ?_⟩
          have hk := hk.drew
          repeat (any_goals (first
          | (with_reducible first|refine pureM_in ?_|refine pureQ_in ?_|refine pureH_in ?_|((refine idGdQ ?_); refine gdQ_conv fun _=>?_)|((refine idGdH ?_); refine gdH_conv fun _=>?_)|refine And.intro (Eq.refl (α := World) _) ?_|refine forall_one ?_|((refine idGd ?_); first|refine zA ?_|refine zB ?_|refine zC ?_|refine zD ?_|refine zE ?_|((refine idGdD ?_); first|refine zF ?_|refine zG ?_|refine zH (fun hg=>?_) fun hg=>?_|refine zI ?_|refine zJ ?_|refine zK (fun hg=>?_) fun hg=>?_)|((refine idGdN ?_); first|refine zL ?_|refine zM ?_|refine zN (fun hg=>?_) fun hg=>?_|refine zO ?_|refine zP ?_|refine zQ (fun hg=>?_) fun hg=>?_)|refine zR ?_|refine zS ?_|refine zT ?_|refine zU ?_|refine zV ?_|refine zW ?_|refine zX (fun hg=>?_) fun hg=>?_|refine zY ?_|refine zZ ?_|refine yA (fun hg=>?_) fun hg=>?_)|((refine idPick ?_); first|refine yB ?_|refine yC ?_|refine yD ?_|refine yE ?_|refine yF ?_|refine yG ?_|refine yH ?_|refine yI ?_|refine yJ ?_|refine yK ?_)|((refine idCond ?_); first|refine yL ?_|refine yM ?_|refine yN ?_|refine yO ?_|refine yP (fun hg=>?_) fun hg=>?_|refine yQ ?_|refine yR ?_|refine yS (fun hg=>?_) fun hg=>?_|refine yT ?_|refine yU ?_|refine yV (fun hg=>?_) fun hg=>?_|refine yW ?_|refine yX ?_|refine yY (fun hg=>?_) fun hg=>?_))
          | ((with_reducible refine idOQ ?_); first|(with_reducible first|refine wA ?_|refine wB ?_|refine wC ?_|refine wD ?_|refine wE ?_|refine wF ?_|refine oQ_nil ?_)|((with_reducible refine oQ_one ?_ ?_); exact ⟨_, rfl⟩)|(with_reducible refine oQ_of ⟨_, rfl⟩ (fun W0 hW0 => by (refine oM_gen (fun Kv hK => ?_)); simp [go_sem, hW0.cells]; (first | exact hK _ _ ⟨rfl, rfl⟩ | exact ⟨by omega, hK _ _ ⟨rfl, rfl⟩⟩)) ?_))
          | ((with_reducible refine idOH ?_); first|(with_reducible first|refine vA ?_|refine vB ?_|refine vC ?_|refine vD ?_|refine vE ?_|refine vF ?_|refine oH_nil ?_)|(with_reducible refine oH_of ⟨_, rfl⟩ (fun W0 hW0 => by (refine oM_gen (fun Kv hK => ?_)); simp [go_sem, hW0.cells]; (first | exact hK _ _ ⟨rfl, rfl⟩ | exact ⟨by omega, hK _ _ ⟨rfl, rfl⟩⟩)) ?_))
          | ((with_reducible refine idO ?_); (with_reducible refine oM_gen fun Kv hK=>?_); simp [go_sem]; (try simp (disch := omega) only [wrapI64, wrapU8, wrapU32, wrapU64]); (first|refine hK _ _ ?_|refine And.intro (by omega) (hK _ _ ?_)); clear hK; clear Kv)))
          refine exps_ok (hl.next hk.below) (by omega) (by omega) (fun ev w4 he h4 _ => ?_)
          have hk := hk.next h4
          refine ⟨hk, ?_⟩
          refine product_t_ok s (hs.next hk.below) he (fun w5 h5 => ?_)
          have hk := hk.next h5
          refine ⟨hk, ?_⟩
          refine store_desk s ad _ c hk (fun W3 hk hc => ⟨hk, hk, hk, _, by simp [go_sem, hc], k2 _ _ em hk.below⟩)
    · refine store_desk s ad _ c hk (fun W3 hk hc => ⟨_, by simp [go_sem, hc], k2 _ _ (markM_no (.inr (.inl (by omega)))) hk.below⟩)
theorem usable_ok (s : Stp) {v lv : Value} {l : List Int} (hs : SetR w s v) (hl : Ints w lv l) (k : ∀ w', Below w.heap.size w w' → K (.tuple #[stpV s v, .int .i64 (usableM s l).1, .bool (usableM s l).2]) w') : callM Tryz.prog 70 #[stpV s v, lv] K w := by
  apply sh_70_ok
  unfold sh_70
  obtain ⟨ad, c, rfl⟩ := hs.ints.isSlice
  refine box_kn (cs := stpC s (.slice ad s.bases.length c)) rfl (.start w) fun b W hk hb1 hb => ?_
  refine alloc_mine al_desk rfl hk fun g W2 hk hb2 hg => ?_
  repeat (any_goals (first
  | (with_reducible first|refine pureM_in ?_|((refine idGd ?_); first|refine zA ?_|refine zB ?_|refine zC ?_|refine zD ?_|refine zE ?_|((refine idGdD ?_); first|refine zF ?_|refine zG ?_|refine zH (fun hg=>?_) fun hg=>?_|refine zI ?_|refine zJ ?_|refine zK (fun hg=>?_) fun hg=>?_)|((refine idGdN ?_); first|refine zL ?_|refine zM ?_|refine zN (fun hg=>?_) fun hg=>?_|refine zO ?_|refine zP ?_|refine zQ (fun hg=>?_) fun hg=>?_)|refine zR ?_|refine zS ?_|refine zT ?_|refine zU ?_|refine zV ?_|refine zW ?_|refine zX (fun hg=>?_) fun hg=>?_|refine zY ?_|refine zZ ?_|refine yA (fun hg=>?_) fun hg=>?_)|((refine idPick ?_); first|refine yB ?_|refine yC ?_|refine yD ?_|refine yE ?_|refine yF ?_|refine yG ?_|refine yH ?_|refine yI ?_|refine yJ ?_|refine yK ?_)|((refine idCond ?_); first|refine yL ?_|refine yM ?_|refine yN ?_|refine yO ?_|refine yP (fun hg=>?_) fun hg=>?_|refine yQ ?_|refine yR ?_|refine yS (fun hg=>?_) fun hg=>?_|refine yT ?_|refine yU ?_|refine yV (fun hg=>?_) fun hg=>?_|refine yW ?_|refine yX ?_|refine yY (fun hg=>?_) fun hg=>?_))
  | ((with_reducible refine idO ?_); (with_reducible refine oM_gen fun Kv hK=>?_); simp [go_sem, hk.cells]; (try simp (disch := omega) only [wrapI64, wrapU8, wrapU32, wrapU64]); (first|refine hK _ _ ?_|refine And.intro (by omega) (hK _ _ ?_)); clear hK; clear Kv)))
  refine mark_ok s (hs.next hk.below) (hl.next hk.below) (fun w2 h2 => ?_)
  have hk := hk.next h2
  clear h2 hb1 hb2
  unfold usableM at k
  obtain ⟨⟨m, u⟩, hm⟩ : ∃ x, markM s l = x := ⟨_, rfl⟩
  rw [hm] at k ⊢
  simp only at k ⊢
  cases u with
  | false =>
    repeat (any_goals (first
    | ((with_reducible refine local_desk s ad s.bases.length c hk ?_); intro b7 W7 hk hb7 hg7)
    | (with_reducible first|refine pureM_in ?_|((refine idGd ?_); first|refine zA ?_|refine zB ?_|refine zC ?_|refine zD ?_|refine zE ?_|((refine idGdD ?_); first|refine zF ?_|refine zG ?_|refine zH (fun hg=>?_) fun hg=>?_|refine zI ?_|refine zJ ?_|refine zK (fun hg=>?_) fun hg=>?_)|((refine idGdN ?_); first|refine zL ?_|refine zM ?_|refine zN (fun hg=>?_) fun hg=>?_|refine zO ?_|refine zP ?_|refine zQ (fun hg=>?_) fun hg=>?_)|refine zR ?_|refine zS ?_|refine zT ?_|refine zU ?_|refine zV ?_|refine zW ?_|refine zX (fun hg=>?_) fun hg=>?_|refine zY ?_|refine zZ ?_|refine yA (fun hg=>?_) fun hg=>?_)|((refine idPick ?_); first|refine yB ?_|refine yC ?_|refine yD ?_|refine yE ?_|refine yF ?_|refine yG ?_|refine yH ?_|refine yI ?_|refine yJ ?_|refine yK ?_)|((refine idCond ?_); first|refine yL ?_|refine yM ?_|refine yN ?_|refine yO ?_|refine yP (fun hg=>?_) fun hg=>?_|refine yQ ?_|refine yR ?_|refine yS (fun hg=>?_) fun hg=>?_|refine yT ?_|refine yU ?_|refine yV (fun hg=>?_) fun hg=>?_|refine yW ?_|refine yX ?_|refine yY (fun hg=>?_) fun hg=>?_))
    | ((with_reducible refine idO ?_); (with_reducible refine oM_gen fun Kv hK=>?_); simp [go_sem, hk.cells]; (try simp (disch := omega) only [wrapI64, wrapU8, wrapU32, wrapU64]); (first|refine hK _ _ ?_|refine And.intro (by omega) (hK _ _ ?_)); clear hK; clear Kv)))
    refine store_desk s ad _ c hk (fun W3 hk hc => ⟨_, by simp [go_sem, hc], k _ hk.below⟩)
  | true =>
    repeat (any_goals (first
    | ((with_reducible refine local_desk s ad s.bases.length c hk ?_); intro b7 W7 hk hb7 hg7)
    | (with_reducible first|refine pureM_in ?_|((refine idGd ?_); first|refine zA ?_|refine zB ?_|refine zC ?_|refine zD ?_|refine zE ?_|((refine idGdD ?_); first|refine zF ?_|refine zG ?_|refine zH (fun hg=>?_) fun hg=>?_|refine zI ?_|refine zJ ?_|refine zK (fun hg=>?_) fun hg=>?_)|((refine idGdN ?_); first|refine zL ?_|refine zM ?_|refine zN (fun hg=>?_) fun hg=>?_|refine zO ?_|refine zP ?_|refine zQ (fun hg=>?_) fun hg=>?_)|refine zR ?_|refine zS ?_|refine zT ?_|refine zU ?_|refine zV ?_|refine zW ?_|refine zX (fun hg=>?_) fun hg=>?_|refine zY ?_|refine zZ ?_|refine yA (fun hg=>?_) fun hg=>?_)|((refine idPick ?_); first|refine yB ?_|refine yC ?_|refine yD ?_|refine yE ?_|refine yF ?_|refine yG ?_|refine yH ?_|refine yI ?_|refine yJ ?_|refine yK ?_)|((refine idCond ?_); first|refine yL ?_|refine yM ?_|refine yN ?_|refine yO ?_|refine yP (fun hg=>?_) fun hg=>?_|refine yQ ?_|refine yR ?_|refine yS (fun hg=>?_) fun hg=>?_|refine yT ?_|refine yU ?_|refine yV (fun hg=>?_) fun hg=>?_|refine yW ?_|refine yX ?_|refine yY (fun hg=>?_) fun hg=>?_))
    | ((with_reducible refine idO ?_); (with_reducible refine oM_gen fun Kv hK=>?_); simp [go_sem, hk.cells]; (try simp (disch := omega) only [wrapI64, wrapU8, wrapU32, wrapU64]); (first|refine hK _ _ ?_|refine And.intro (by omega) (hK _ _ ?_)); clear hK; clear Kv)))
    refine store_desk s ad _ c hk (fun W3 hk hc => ⟨stpV s (.slice ad s.bases.length c), by simp [go_sem, hc], by simpa using k _ hk.below⟩)
end
end Go.Proofs
