/- DkR3: a part of the proof of the seat's statements: lemmas about the given translation and plain laws. No condition of its own. -/
--Q
import Derived.Test.YtefjibjojkjiiaaDkR2
set_option linter.all false
namespace Go.Proofs
open Go Go.Sh Go.RowKit DkSpec
set_option linter.unusedSimpArgs false
set_option linter.unusedVariables false
set_option maxRecDepth 10000
section
variable {w w' : World} {b : Nat} {A : Ab} {h : Rh} {K : Value → World → Prop}
def keepF (f : Int) (l : List (Int × Bs × Bs)) : List (Int × Bs × Bs) := l.filter (fun y => decide (y.1 ≠ f))
theorem nextF (f : Int) (l : List (Int × Bs × Bs)) (i : Nat) (hi : i < l.length) : keepF f (l.take (i + 1)) = if l[i].1 = f then keepF f (l.take i) else keepF f (l.take i) ++ [l[i]] := by
  unfold keepF
  rw [List.take_succ_eq_append_getElem hi, List.filter_append]
  by_cases hf : l[i].1 = f
  · rw [if_pos hf]; simp [hf]
  · rw [if_neg hf]; simp [hf]
set_option maxHeartbeats 1000000 in
theorem set_ok (d : IsRf w b A h) (f : Int) (hf : 0 ≤ f ∧ f < 16) (x : Bs × Bs) (hx : x.1.length ≤ 16777216 ∧ x.2.length ≤ 16777216) (k : ∀ w' h', IsRf w' b { A with F := setF A.F f x } h' → StepR w b h w' h' → K (.tuple #[]) w') : callM Try.prog 59 #[dkP b, filV f x] K w := by
  apply rf_59_ok
  unfold rf_59 filV
  repeat (any_goals (first
  | (with_reducible refine pureM_in ?_)
  | (with_reducible first|refine pureQ_in ?_|refine gdQ_conv (fun _ => ?_)|refine pickQT ?_|refine pickQF ?_|refine pickQ_pos (by first|assumption|omega) ?_|refine pickQ_neg (by first|assumption|omega) ?_|refine pickQn_pos (by first|assumption|omega) ?_|refine pickQn_neg (by first|assumption|omega) ?_) | ((with_reducible refine oQ_one ?_ ?_); exact ⟨_, rfl⟩) | (with_reducible first|refine And.intro (Eq.refl (α := World) _) ?_|refine forall_one ?_|refine oQ_nil ?_) | (with_reducible refine oQ_of ⟨_, rfl⟩ (fun W0 hW0 => by (refine oM_gen (fun Kv hK => ?_)); simp [go_sem]; (first | exact hK _ _ ⟨rfl, rfl⟩ | exact ⟨by omega, hK _ _ ⟨rfl, rfl⟩⟩)) ?_)
  | (with_reducible first|refine gdtT ?_|refine gdtF ?_|refine gdfF ?_|refine gdfT ?_|refine gdu ?_ _|refine gdt_pos (by first|assumption|omega) ?_|refine gdt_neg (by first|assumption|omega) ?_|refine gdt_split (fun hg => ?_) (fun hg => ?_)|refine gdf_pos (by first|assumption|omega) ?_|refine gdf_neg (by first|assumption|omega) ?_|refine gdf_split (fun hg => ?_) (fun hg => ?_)|refine gdtn_pos (by first|assumption|omega) ?_|refine gdtn_neg (by first|assumption|omega) ?_|refine gdtn_split (fun hg => ?_) (fun hg => ?_)|refine gdfn_pos (by first|assumption|omega) ?_|refine gdfn_neg (by first|assumption|omega) ?_|refine gdfn_split (fun hg => ?_) (fun hg => ?_)|refine gdtbn_pos (by assumption) ?_|refine gdtbn_neg (by assumption) ?_|refine gdfbn_pos (by assumption) ?_|refine gdfbn_neg (by assumption) ?_|refine gdtb_pos (by assumption) ?_|refine gdtb_neg (by assumption) ?_|refine gdtb_split (fun hg => ?_) (fun hg => ?_)|refine gdfb_pos (by assumption) ?_|refine gdfb_neg (by assumption) ?_|refine gdfb_split (fun hg => ?_) (fun hg => ?_)|refine pickT ?_|refine pickF ?_|refine pick_pos (by first|assumption|omega) ?_|refine pick_neg (by first|assumption|omega) ?_|refine pickn_pos (by first|assumption|omega) ?_|refine pickn_neg (by first|assumption|omega) ?_|refine pickbn_pos (by assumption) ?_|refine pickbn_neg (by assumption) ?_|refine pickb_pos (by assumption) ?_|refine pickb_neg (by assumption) ?_|refine condT ?_|refine condF ?_|refine cond_pos (by first|assumption|omega) ?_|refine cond_neg (by first|assumption|omega) ?_|refine condM_dec (fun hg => ?_) (fun hg => ?_)|refine condn_pos (by first|assumption|omega) ?_|refine condn_neg (by first|assumption|omega) ?_|refine condM_ndec (fun hg => ?_) (fun hg => ?_)|refine condbn_pos (by assumption) ?_|refine condbn_neg (by assumption) ?_|refine condbn_split (fun hg => ?_) (fun hg => ?_)|refine condb_pos (by assumption) ?_|refine condb_neg (by assumption) ?_|refine condM_b (fun hg => ?_) (fun hg => ?_))
  | ((with_reducible refine oM_gen (fun Kv hK => ?_)); simp [go_sem]; (try simp (disch := omega) only [wrapI64, wrapU8, wrapU32, wrapU64]); (first | refine hK _ _ ?_ | refine And.intro (by omega) (hK _ _ ?_)); clear hK; clear Kv)))
  have f0 : Fr (fun _ => False) w (w.alloc (.cells #[.int .i64 f, bsV x.1, bsV x.2] 64 (0, 0))) := (Fr.refl _ _).alloc _
  have n0 := heap_alloc_new w (.cells #[.int .i64 f, bsV x.1, bsV x.2] 64 (0, 0))
  have z0 := alloc_size w (.cells #[.int .i64 f, bsV x.1, bsV x.2] 64 (0, 0))
  generalize w.alloc (.cells #[.int .i64 f, bsV x.1, bsV x.2] 64 (0, 0)) = w0 at *
  have d0 := d.fresh f0
  obtain ⟨l, hF, ho⟩ := d0.files
  have hl16 := hF.len
  obtain ⟨va, vc, hv⟩ := owns_len ho
  refine ⟨fun l' w' => ∃ (v : Value) (i : Nat), l' = [v, .int .i64 (i : Int)] ∧ i ≤ l.length ∧ Fr (fun _ => False) w0 w' ∧ w'.ownsRow 0 64 3 v (keepF f (l.take i)).length (flat filC (keepF f (l.take i))) ∧ (∀ j, v.ownBlock = some j → w0.heap.size ≤ j), fun l' _ => match l' with | [_, .int _ m] => ((l.length : Int) - m).toNat | _ => 0, ⟨_, 0, rfl, by omega, Fr.refl _ _, World.ownsRow_nil _ _ _ _, fun j hj => by cases hj⟩, ?_⟩
  rintro l' u w1 ⟨v, i, rfl, hi, f1, hov, hfr⟩
  simp only [List.getD_cons_zero, List.getD_cons_succ]
  have d1 := d0.fresh f1
  have c0 := d1.c 0
  simp only [rfCells, hv] at c0
  have hz1 := f1.size
  have n1 := (f1.block w.heap.size (by omega) (fun h => h)).trans n0
  have ho1 : w1.ownsRow 0 64 3 h.fv l.length (flat filC l) := owns_keep ho (fun i hi => f1.block i (owns_own ho hi).1 (fun h => h))
  rw [hv] at ho1
  have hlen : (keepF f (l.take i)).length ≤ i := by
    have := List.length_filter_le (fun y : Int × Bs × Bs => decide (y.1 ≠ f)) (l.take i)
    unfold keepF
    rw [List.length_take] at this
    omega
  repeat (any_goals (first
  | (with_reducible refine pureM_in ?_)
  | (with_reducible first|refine pureQ_in ?_|refine gdQ_conv (fun _ => ?_)|refine pickQT ?_|refine pickQF ?_|refine pickQ_pos (by first|assumption|omega) ?_|refine pickQ_neg (by first|assumption|omega) ?_|refine pickQn_pos (by first|assumption|omega) ?_|refine pickQn_neg (by first|assumption|omega) ?_) | ((with_reducible refine oQ_one ?_ ?_); exact ⟨_, rfl⟩) | (with_reducible first|refine And.intro (Eq.refl (α := World) _) ?_|refine forall_one ?_|refine oQ_nil ?_) | (with_reducible refine oQ_of ⟨_, rfl⟩ (fun W0 hW0 => by (refine oM_gen (fun Kv hK => ?_)); simp [go_sem]; (first | exact hK _ _ ⟨rfl, rfl⟩ | exact ⟨by omega, hK _ _ ⟨rfl, rfl⟩⟩)) ?_)
  | (with_reducible first|refine gdtT ?_|refine gdtF ?_|refine gdfF ?_|refine gdfT ?_|refine gdu ?_ _|refine gdt_pos (by first|assumption|omega) ?_|refine gdt_neg (by first|assumption|omega) ?_|refine gdt_split (fun hg => ?_) (fun hg => ?_)|refine gdf_pos (by first|assumption|omega) ?_|refine gdf_neg (by first|assumption|omega) ?_|refine gdf_split (fun hg => ?_) (fun hg => ?_)|refine gdtn_pos (by first|assumption|omega) ?_|refine gdtn_neg (by first|assumption|omega) ?_|refine gdtn_split (fun hg => ?_) (fun hg => ?_)|refine gdfn_pos (by first|assumption|omega) ?_|refine gdfn_neg (by first|assumption|omega) ?_|refine gdfn_split (fun hg => ?_) (fun hg => ?_)|refine gdtbn_pos (by assumption) ?_|refine gdtbn_neg (by assumption) ?_|refine gdfbn_pos (by assumption) ?_|refine gdfbn_neg (by assumption) ?_|refine gdtb_pos (by assumption) ?_|refine gdtb_neg (by assumption) ?_|refine gdtb_split (fun hg => ?_) (fun hg => ?_)|refine gdfb_pos (by assumption) ?_|refine gdfb_neg (by assumption) ?_|refine gdfb_split (fun hg => ?_) (fun hg => ?_)|refine pickT ?_|refine pickF ?_|refine pick_pos (by first|assumption|omega) ?_|refine pick_neg (by first|assumption|omega) ?_|refine pickn_pos (by first|assumption|omega) ?_|refine pickn_neg (by first|assumption|omega) ?_|refine pickbn_pos (by assumption) ?_|refine pickbn_neg (by assumption) ?_|refine pickb_pos (by assumption) ?_|refine pickb_neg (by assumption) ?_|refine condT ?_|refine condF ?_|refine cond_pos (by first|assumption|omega) ?_|refine cond_neg (by first|assumption|omega) ?_|refine condM_dec (fun hg => ?_) (fun hg => ?_)|refine condn_pos (by first|assumption|omega) ?_|refine condn_neg (by first|assumption|omega) ?_|refine condM_ndec (fun hg => ?_) (fun hg => ?_)|refine condbn_pos (by assumption) ?_|refine condbn_neg (by assumption) ?_|refine condbn_split (fun hg => ?_) (fun hg => ?_)|refine condb_pos (by assumption) ?_|refine condb_neg (by assumption) ?_|refine condM_b (fun hg => ?_) (fun hg => ?_))
  | ((with_reducible refine oM_gen (fun Kv hK => ?_)); simp [go_sem, c0]; (try simp (disch := omega) only [wrapI64, wrapU8, wrapU32, wrapU64]); (first | refine hK _ _ ?_ | refine And.intro (by omega) (hK _ _ ?_)); clear hK; clear Kv)))
  · have hlt : i < l.length := by omega
    obtain ⟨g, c, he, e0, e1, e2⟩ := fil_cells ho1 (List.getElem?_eq_getElem hlt)
    cases he
    have hnx := nextF f l i hlt
    refine ⟨fun l' w' => ∃ v : Value, l' = [v] ∧ Fr (fun _ => False) w0 w' ∧ w'.ownsRow 0 64 3 v (keepF f (l.take (i + 1))).length (flat filC (keepF f (l.take (i + 1)))) ∧ (∀ j, v.ownBlock = some j → w0.heap.size ≤ j), ?_, ?_⟩
    · refine quietM_one ?_
      have f2 : Fr (fun _ => False) w0 { w1 with drawn := w1.drawn + 1 } := f1.drew
      have hh : ({ w1 with drawn := w1.drawn + 1 } : World).heap = w1.heap := rfl
      generalize ({ w1 with drawn := w1.drawn + 1 } : World) = w2 at *
      rw [← cell_heap hh] at c0 e0 e1 e2
      rw [← hh] at n1
      have p0 := cell_of_block n1 0
      simp at p0
      have hix := idxFil (g := g) (c := vc) hlt w2
      have hld := loadFil e0 e1 e2
      have hov2 : w2.ownsRow 0 64 3 v (keepF f (l.take i)).length (flat filC (keepF f (l.take i))) := owns_keep hov (fun i _ => by rw [hh])
      repeat (any_goals (first
      | (with_reducible refine pureM_in ?_)
      | (with_reducible first|refine pureQ_in ?_|refine gdQ_conv (fun _ => ?_)|refine pickQT ?_|refine pickQF ?_|refine pickQ_pos (by first|assumption|omega) ?_|refine pickQ_neg (by first|assumption|omega) ?_|refine pickQn_pos (by first|assumption|omega) ?_|refine pickQn_neg (by first|assumption|omega) ?_) | ((with_reducible refine oQ_one ?_ ?_); exact ⟨_, rfl⟩) | (with_reducible first|refine And.intro (Eq.refl (α := World) _) ?_|refine forall_one ?_|refine oQ_nil ?_) | (with_reducible refine oQ_of ⟨_, rfl⟩ (fun W0 hW0 => by (refine oM_gen (fun Kv hK => ?_)); simp [go_sem]; (first | exact hK _ _ ⟨rfl, rfl⟩ | exact ⟨by omega, hK _ _ ⟨rfl, rfl⟩⟩)) ?_)
      | (rw [oM_load, hld, rM_ok])
      | (with_reducible first|refine gdtT ?_|refine gdtF ?_|refine gdfF ?_|refine gdfT ?_|refine gdu ?_ _|refine gdt_pos (by first|assumption|omega) ?_|refine gdt_neg (by first|assumption|omega) ?_|refine gdt_split (fun hg => ?_) (fun hg => ?_)|refine gdf_pos (by first|assumption|omega) ?_|refine gdf_neg (by first|assumption|omega) ?_|refine gdf_split (fun hg => ?_) (fun hg => ?_)|refine gdtn_pos (by first|assumption|omega) ?_|refine gdtn_neg (by first|assumption|omega) ?_|refine gdtn_split (fun hg => ?_) (fun hg => ?_)|refine gdfn_pos (by first|assumption|omega) ?_|refine gdfn_neg (by first|assumption|omega) ?_|refine gdfn_split (fun hg => ?_) (fun hg => ?_)|refine gdtbn_pos (by assumption) ?_|refine gdtbn_neg (by assumption) ?_|refine gdfbn_pos (by assumption) ?_|refine gdfbn_neg (by assumption) ?_|refine gdtb_pos (by assumption) ?_|refine gdtb_neg (by assumption) ?_|refine gdtb_split (fun hg => ?_) (fun hg => ?_)|refine gdfb_pos (by assumption) ?_|refine gdfb_neg (by assumption) ?_|refine gdfb_split (fun hg => ?_) (fun hg => ?_)|refine pickT ?_|refine pickF ?_|refine pick_pos (by first|assumption|omega) ?_|refine pick_neg (by first|assumption|omega) ?_|refine pickn_pos (by first|assumption|omega) ?_|refine pickn_neg (by first|assumption|omega) ?_|refine pickbn_pos (by assumption) ?_|refine pickbn_neg (by assumption) ?_|refine pickb_pos (by assumption) ?_|refine pickb_neg (by assumption) ?_|refine condT ?_|refine condF ?_|refine cond_pos (by first|assumption|omega) ?_|refine cond_neg (by first|assumption|omega) ?_|refine condM_dec (fun hg => ?_) (fun hg => ?_)|refine condn_pos (by first|assumption|omega) ?_|refine condn_neg (by first|assumption|omega) ?_|refine condM_ndec (fun hg => ?_) (fun hg => ?_)|refine condbn_pos (by assumption) ?_|refine condbn_neg (by assumption) ?_|refine condbn_split (fun hg => ?_) (fun hg => ?_)|refine condb_pos (by assumption) ?_|refine condb_neg (by assumption) ?_|refine condM_b (fun hg => ?_) (fun hg => ?_))
      | ((with_reducible refine oM_gen (fun Kv hK => ?_)); simp [go_sem, c0, hix, e0, p0]; (try simp (disch := omega) only [wrapI64, wrapU8, wrapU32, wrapU64]); (first | refine hK _ _ ?_ | refine And.intro (by omega) (hK _ _ ?_)); clear hK; clear Kv)))
      · have heq : l[i].1 = f := by assumption
        rw [if_pos heq] at hnx
        rw [hnx]
        exact ⟨v, rfl, f2, hov2, hfr⟩
      · have hne : ¬ l[i].1 = f := by assumption
        rw [if_neg hne] at hnx
        have g3 : Fr (fun _ => False) w2 (w2.alloc (.cells #[.int .i64 l[i].1, bsV l[i].2.1, bsV l[i].2.2] 64 (0, 0))) := (Fr.refl _ _).alloc _
        have n3 := heap_alloc_new w2 (.cells #[.int .i64 l[i].1, bsV l[i].2.1, bsV l[i].2.2] 64 (0, 0))
        generalize w2.alloc (.cells #[.int .i64 l[i].1, bsV l[i].2.1, bsV l[i].2.2] 64 (0, 0)) = w3 at *
        have hov3 : w3.ownsRow 0 64 3 v (keepF f (l.take i)).length (flat filC (keepF f (l.take i))) := owns_keep hov2 (fun i hi => g3.block i (owns_own hov2 hi).1 (fun h => h))
        have f3 := f2.trans g3 (fun _ h => h.elim)
        refine append_at 55 55 64 ((Try.prog.info? 64).getD default) (.agg #[.int .i64 0, .string ⟨#[]⟩, .string ⟨#[]⟩]) 3 40 (by kernel_rfl) (by kernel_rfl) (by kernel_rfl) (by kernel_rfl) (by kernel_rfl) (by kernel_rfl) (by omega) hov3 (filC l[i]) rfl (fun h => by cases h) ?_ (filC_one _) (by simp only [maxLen]; omega) (by omega) ?_
        · rintro ad hu j y hj
          cases hu
          rw [add_none, Nat.zero_add, cell_of_block n3]
          match j, hj with
          | 0, hj => exact hj
          | 1, hj => exact hj
          | 2, hj => exact hj
        intro v' w4 ho4 g4 hv4
        refine ⟨v', rfl, f3.by g4 (fun j hj => .inr (hfr j hj)), ?_, fun j hj => (hv4 j hj).elim (hfr j) (fun e => by have := f3.size; omega)⟩
        rw [hnx, List.length_append, flat_snoc]
        exact ho4
    · rintro l' u w5 ⟨v', rfl, f5, hov5, hfr5⟩
      simp only [List.getD_cons_zero]
      repeat (any_goals (first
      | (with_reducible refine pureM_in ?_)
      | (with_reducible first|refine pureQ_in ?_|refine gdQ_conv (fun _ => ?_)|refine pickQT ?_|refine pickQF ?_|refine pickQ_pos (by first|assumption|omega) ?_|refine pickQ_neg (by first|assumption|omega) ?_|refine pickQn_pos (by first|assumption|omega) ?_|refine pickQn_neg (by first|assumption|omega) ?_) | ((with_reducible refine oQ_one ?_ ?_); exact ⟨_, rfl⟩) | (with_reducible first|refine And.intro (Eq.refl (α := World) _) ?_|refine forall_one ?_|refine oQ_nil ?_) | (with_reducible refine oQ_of ⟨_, rfl⟩ (fun W0 hW0 => by (refine oM_gen (fun Kv hK => ?_)); simp [go_sem]; (first | exact hK _ _ ⟨rfl, rfl⟩ | exact ⟨by omega, hK _ _ ⟨rfl, rfl⟩⟩)) ?_)
      | (with_reducible first|refine gdtT ?_|refine gdtF ?_|refine gdfF ?_|refine gdfT ?_|refine gdu ?_ _|refine gdt_pos (by first|assumption|omega) ?_|refine gdt_neg (by first|assumption|omega) ?_|refine gdt_split (fun hg => ?_) (fun hg => ?_)|refine gdf_pos (by first|assumption|omega) ?_|refine gdf_neg (by first|assumption|omega) ?_|refine gdf_split (fun hg => ?_) (fun hg => ?_)|refine gdtn_pos (by first|assumption|omega) ?_|refine gdtn_neg (by first|assumption|omega) ?_|refine gdtn_split (fun hg => ?_) (fun hg => ?_)|refine gdfn_pos (by first|assumption|omega) ?_|refine gdfn_neg (by first|assumption|omega) ?_|refine gdfn_split (fun hg => ?_) (fun hg => ?_)|refine gdtbn_pos (by assumption) ?_|refine gdtbn_neg (by assumption) ?_|refine gdfbn_pos (by assumption) ?_|refine gdfbn_neg (by assumption) ?_|refine gdtb_pos (by assumption) ?_|refine gdtb_neg (by assumption) ?_|refine gdtb_split (fun hg => ?_) (fun hg => ?_)|refine gdfb_pos (by assumption) ?_|refine gdfb_neg (by assumption) ?_|refine gdfb_split (fun hg => ?_) (fun hg => ?_)|refine pickT ?_|refine pickF ?_|refine pick_pos (by first|assumption|omega) ?_|refine pick_neg (by first|assumption|omega) ?_|refine pickn_pos (by first|assumption|omega) ?_|refine pickn_neg (by first|assumption|omega) ?_|refine pickbn_pos (by assumption) ?_|refine pickbn_neg (by assumption) ?_|refine pickb_pos (by assumption) ?_|refine pickb_neg (by assumption) ?_|refine condT ?_|refine condF ?_|refine cond_pos (by first|assumption|omega) ?_|refine cond_neg (by first|assumption|omega) ?_|refine condM_dec (fun hg => ?_) (fun hg => ?_)|refine condn_pos (by first|assumption|omega) ?_|refine condn_neg (by first|assumption|omega) ?_|refine condM_ndec (fun hg => ?_) (fun hg => ?_)|refine condbn_pos (by assumption) ?_|refine condbn_neg (by assumption) ?_|refine condbn_split (fun hg => ?_) (fun hg => ?_)|refine condb_pos (by assumption) ?_|refine condb_neg (by assumption) ?_|refine condM_b (fun hg => ?_) (fun hg => ?_))
      | ((with_reducible refine oM_gen (fun Kv hK => ?_)); simp [go_sem]; (try simp (disch := omega) only [wrapI64, wrapU8, wrapU32, wrapU64]); (first | refine hK _ _ ?_ | refine And.intro (by omega) (hK _ _ ?_)); clear hK; clear Kv)))
      refine ⟨⟨v', i + 1, rfl, hlt, f5, hov5, hfr5⟩, ?_⟩
      show ((l.length : Int) - ((i : Int) + 1)).toNat < ((l.length : Int) - (i : Int)).toNat
      omega
  · rw [List.take_of_length_le (by omega)] at hov hlen
    have p0 := cell_of_block n1 0
    have p1 := cell_of_block n1 1
    have p2 := cell_of_block n1 2
    simp at p0 p1 p2
    have hld := loadFil (o := 0) p0 p1 p2
    repeat (any_goals (first
    | (with_reducible refine pureM_in ?_)
    | (with_reducible first|refine pureQ_in ?_|refine gdQ_conv (fun _ => ?_)|refine pickQT ?_|refine pickQF ?_|refine pickQ_pos (by first|assumption|omega) ?_|refine pickQ_neg (by first|assumption|omega) ?_|refine pickQn_pos (by first|assumption|omega) ?_|refine pickQn_neg (by first|assumption|omega) ?_) | ((with_reducible refine oQ_one ?_ ?_); exact ⟨_, rfl⟩) | (with_reducible first|refine And.intro (Eq.refl (α := World) _) ?_|refine forall_one ?_|refine oQ_nil ?_) | (with_reducible refine oQ_of ⟨_, rfl⟩ (fun W0 hW0 => by (refine oM_gen (fun Kv hK => ?_)); simp [go_sem]; (first | exact hK _ _ ⟨rfl, rfl⟩ | exact ⟨by omega, hK _ _ ⟨rfl, rfl⟩⟩)) ?_)
    | (rw [oM_load, hld, rM_ok])
    | (with_reducible first|refine gdtT ?_|refine gdtF ?_|refine gdfF ?_|refine gdfT ?_|refine gdu ?_ _|refine gdt_pos (by first|assumption|omega) ?_|refine gdt_neg (by first|assumption|omega) ?_|refine gdt_split (fun hg => ?_) (fun hg => ?_)|refine gdf_pos (by first|assumption|omega) ?_|refine gdf_neg (by first|assumption|omega) ?_|refine gdf_split (fun hg => ?_) (fun hg => ?_)|refine gdtn_pos (by first|assumption|omega) ?_|refine gdtn_neg (by first|assumption|omega) ?_|refine gdtn_split (fun hg => ?_) (fun hg => ?_)|refine gdfn_pos (by first|assumption|omega) ?_|refine gdfn_neg (by first|assumption|omega) ?_|refine gdfn_split (fun hg => ?_) (fun hg => ?_)|refine gdtbn_pos (by assumption) ?_|refine gdtbn_neg (by assumption) ?_|refine gdfbn_pos (by assumption) ?_|refine gdfbn_neg (by assumption) ?_|refine gdtb_pos (by assumption) ?_|refine gdtb_neg (by assumption) ?_|refine gdtb_split (fun hg => ?_) (fun hg => ?_)|refine gdfb_pos (by assumption) ?_|refine gdfb_neg (by assumption) ?_|refine gdfb_split (fun hg => ?_) (fun hg => ?_)|refine pickT ?_|refine pickF ?_|refine pick_pos (by first|assumption|omega) ?_|refine pick_neg (by first|assumption|omega) ?_|refine pickn_pos (by first|assumption|omega) ?_|refine pickn_neg (by first|assumption|omega) ?_|refine pickbn_pos (by assumption) ?_|refine pickbn_neg (by assumption) ?_|refine pickb_pos (by assumption) ?_|refine pickb_neg (by assumption) ?_|refine condT ?_|refine condF ?_|refine cond_pos (by first|assumption|omega) ?_|refine cond_neg (by first|assumption|omega) ?_|refine condM_dec (fun hg => ?_) (fun hg => ?_)|refine condn_pos (by first|assumption|omega) ?_|refine condn_neg (by first|assumption|omega) ?_|refine condM_ndec (fun hg => ?_) (fun hg => ?_)|refine condbn_pos (by assumption) ?_|refine condbn_neg (by assumption) ?_|refine condbn_split (fun hg => ?_) (fun hg => ?_)|refine condb_pos (by assumption) ?_|refine condb_neg (by assumption) ?_|refine condM_b (fun hg => ?_) (fun hg => ?_))
    | ((with_reducible refine oM_gen (fun Kv hK => ?_)); simp [go_sem]; (try simp (disch := omega) only [wrapI64, wrapU8, wrapU32, wrapU64]); (first | refine hK _ _ ?_ | refine And.intro (by omega) (hK _ _ ?_)); clear hK; clear Kv)))
    have g3 : Fr (fun _ => False) w1 (w1.alloc (.cells #[.int .i64 f, bsV x.1, bsV x.2] 64 (0, 0))) := (Fr.refl _ _).alloc _
    have n3 := heap_alloc_new w1 (.cells #[.int .i64 f, bsV x.1, bsV x.2] 64 (0, 0))
    generalize w1.alloc (.cells #[.int .i64 f, bsV x.1, bsV x.2] 64 (0, 0)) = w3 at *
    have hov3 : w3.ownsRow 0 64 3 v (keepF f l).length (flat filC (keepF f l)) := owns_keep hov (fun i hi => g3.block i (owns_own hov hi).1 (fun h => h))
    have f3 := f1.trans g3 (fun _ h => h.elim)
    refine append_at 55 55 64 ((Try.prog.info? 64).getD default) (.agg #[.int .i64 0, .string ⟨#[]⟩, .string ⟨#[]⟩]) 3 40 (by kernel_rfl) (by kernel_rfl) (by kernel_rfl) (by kernel_rfl) (by kernel_rfl) (by kernel_rfl) (by omega) hov3 (filC (f, x)) rfl (fun h => by cases h) ?_ (filC_one _) (by simp only [maxLen]; omega) (by omega) ?_
    · rintro ad hu j y hj
      cases hu
      rw [add_none, Nat.zero_add, cell_of_block n3]
      match j, hj with
      | 0, hj => exact hj
      | 1, hj => exact hj
      | 2, hj => exact hj
    intro v' w4 ho4 g4 hv4
    have f4 : Fr (fun _ => False) w0 w4 := f3.by g4 (fun j hj => .inr (hfr j hj))
    have hv4' : ∀ j, v'.ownBlock = some j → w0.heap.size ≤ j := fun j hj => (hv4 j hj).elim (hfr j) (fun e => by have := f3.size; omega)
    have d4 := d0.fresh f4
    have y0 := d4.fz 0
    have e0 := d4.c 0
    simp only [rfCells] at e0
    obtain ⟨a4, c4, rfl⟩ := owns_len ho4
    repeat (any_goals (first
    | (with_reducible refine pureM_in ?_)
    | (with_reducible first|refine pureQ_in ?_|refine gdQ_conv (fun _ => ?_)|refine pickQT ?_|refine pickQF ?_|refine pickQ_pos (by first|assumption|omega) ?_|refine pickQ_neg (by first|assumption|omega) ?_|refine pickQn_pos (by first|assumption|omega) ?_|refine pickQn_neg (by first|assumption|omega) ?_) | ((with_reducible refine oQ_one ?_ ?_); exact ⟨_, rfl⟩) | (with_reducible first|refine And.intro (Eq.refl (α := World) _) ?_|refine forall_one ?_|refine oQ_nil ?_) | (with_reducible refine oQ_of ⟨_, rfl⟩ (fun W0 hW0 => by (refine oM_gen (fun Kv hK => ?_)); simp [go_sem]; (first | exact hK _ _ ⟨rfl, rfl⟩ | exact ⟨by omega, hK _ _ ⟨rfl, rfl⟩⟩)) ?_)
    | (with_reducible first|refine gdtT ?_|refine gdtF ?_|refine gdfF ?_|refine gdfT ?_|refine gdu ?_ _|refine gdt_pos (by first|assumption|omega) ?_|refine gdt_neg (by first|assumption|omega) ?_|refine gdt_split (fun hg => ?_) (fun hg => ?_)|refine gdf_pos (by first|assumption|omega) ?_|refine gdf_neg (by first|assumption|omega) ?_|refine gdf_split (fun hg => ?_) (fun hg => ?_)|refine gdtn_pos (by first|assumption|omega) ?_|refine gdtn_neg (by first|assumption|omega) ?_|refine gdtn_split (fun hg => ?_) (fun hg => ?_)|refine gdfn_pos (by first|assumption|omega) ?_|refine gdfn_neg (by first|assumption|omega) ?_|refine gdfn_split (fun hg => ?_) (fun hg => ?_)|refine gdtbn_pos (by assumption) ?_|refine gdtbn_neg (by assumption) ?_|refine gdfbn_pos (by assumption) ?_|refine gdfbn_neg (by assumption) ?_|refine gdtb_pos (by assumption) ?_|refine gdtb_neg (by assumption) ?_|refine gdtb_split (fun hg => ?_) (fun hg => ?_)|refine gdfb_pos (by assumption) ?_|refine gdfb_neg (by assumption) ?_|refine gdfb_split (fun hg => ?_) (fun hg => ?_)|refine pickT ?_|refine pickF ?_|refine pick_pos (by first|assumption|omega) ?_|refine pick_neg (by first|assumption|omega) ?_|refine pickn_pos (by first|assumption|omega) ?_|refine pickn_neg (by first|assumption|omega) ?_|refine pickbn_pos (by assumption) ?_|refine pickbn_neg (by assumption) ?_|refine pickb_pos (by assumption) ?_|refine pickb_neg (by assumption) ?_|refine condT ?_|refine condF ?_|refine cond_pos (by first|assumption|omega) ?_|refine cond_neg (by first|assumption|omega) ?_|refine condM_dec (fun hg => ?_) (fun hg => ?_)|refine condn_pos (by first|assumption|omega) ?_|refine condn_neg (by first|assumption|omega) ?_|refine condM_ndec (fun hg => ?_) (fun hg => ?_)|refine condbn_pos (by assumption) ?_|refine condbn_neg (by assumption) ?_|refine condbn_split (fun hg => ?_) (fun hg => ?_)|refine condb_pos (by assumption) ?_|refine condb_neg (by assumption) ?_|refine condM_b (fun hg => ?_) (fun hg => ?_))
    | ((with_reducible refine oM_gen (fun Kv hK => ?_)); simp [go_sem, y0, e0]; (try simp (disch := omega) only [wrapI64, wrapU8, wrapU32, wrapU64]); (first | refine hK _ _ ?_ | refine And.intro (by omega) (hK _ _ ?_)); clear hK; clear Kv)))
    have hne : ∀ i, i ≠ b → (w4.setCell ⟨b, 0, none⟩ (.slice a4 ((keepF f l).length + 1) c4)).heap[i]? = w4.heap[i]? := fun i hi => setCell_heap_ne _ _ _ _ hi
    have hb0 := d0.lt (.inl (.inl rfl))
    refine k _ { h with fv := .slice a4 ((keepF f l).length + 1) c4 } ⟨?_, ⟨_, hF.set hf x, ?_⟩, ?_, ?_, ?_⟩ ⟨?_, ?_, ?_⟩
    · rw [block_set d4.blk]; rfl
    · show World.ownsRow _ 0 _ 3 (.slice a4 _ c4) _ _
      rw [List.length_append, flat_snoc]
      exact owns_keep ho4 (fun i hi => hne i (fun e => by have := hv4' i hi; omega))
    · exact owns_keep d4.que (fun i hi => hne i (d4.qne hi).1)
    · exact owns_keep d4.kep (fun i hi => hne i (d4.fne (.inr hi)).1)
    · refine ⟨d.wf.l0, d.wf.l1, d.wf.a0, d.wf.a1, d.wf.nd, d.wf.qr, ?_, d.wf.kr, d.wf.kl⟩
      intro g
      show (setF A.F f x g).1.length ≤ _ ∧ (setF A.F f x g).2.length ≤ _
      by_cases hg : g = f
      · subst hg; rw [setF_same]; exact hx
      · rw [setF_ne _ _ _ _ hg]; exact d.wf.sz g
    · have : Fr (OwnR b h) w w4 := (f0.trans f4 (fun _ h => h.elim)).mono (fun i _ h => h.elim)
      exact this.set ⟨b, 0, none⟩ _ (.inl (.inl rfl))
    · exact fun i hi => .inl hi
    · rintro i (hi | hi)
      · exact .inr (by have := hv4' i hi; omega)
      · exact .inl (.inr hi)
end
end Go.Proofs
