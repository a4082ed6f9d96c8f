/- DkF: a part of the proof of the seat's statements: lemmas about the given translation and plain laws. No condition of its own. -/
--Q
import Derived.Test.YtefjibjojkjiiaaDkE
set_option linter.all false
namespace Go.Proofs
open Go Go.Sh Go.RowKit DkSpec
set_option linter.unusedSimpArgs false
set_option maxRecDepth 10000
section
variable {w : World} {b : Nat} {A : Ab} {h : Dk} {K : Value → World → Prop}
theorem isBody56 : isBody Try.prog 56 = true := by kernel_rfl
theorem isBody58 : isBody Try.prog 58 = true := by kernel_rfl
/-- the two tests of settle -/
theorem test1_ok {x : Nat} {f : Int} (p : Int × Int) (hx : w.heap[x]? = some (.cells #[.int .i64 f] 3 (0, 0))) (k : ∀ w', Fr (fun _ => False) w w' → K (.bool (decide (p.1 = f))) w') : callM Try.prog 56 #[.agg #[.int .i64 p.1, .int .i64 p.2], .pointer (some ⟨x, 0, none⟩)] K w := by
  apply sh_56_ok
  unfold sh_56
  have hlt := (Array.getElem?_eq_some_iff.1 hx).1
  have f0 : Fr (fun _ => False) w (w.alloc (.cells #[.int .i64 p.1, .int .i64 p.2] 69 (0, 0))) := (Fr.refl _ _).alloc _
  have hx2 := (f0.block x hlt (fun h => h)).trans hx
  have e := cell_of_block hx2 0
  simp at e
  repeat (any_goals (first
  | (with_reducible refine pureM_in ?_)
  | (with_reducible first|refine pureQ_in ?_|refine gdQ_conv (fun _ => ?_)|refine pickQT ?_|refine pickQF ?_|refine pickQ_pos (by first|assumption|omega) ?_|refine pickQ_neg (by first|assumption|omega) ?_|refine pickQn_pos (by first|assumption|omega) ?_|refine pickQn_neg (by first|assumption|omega) ?_) | ((with_reducible refine oQ_one ?_ ?_); exact ⟨_, rfl⟩) | (with_reducible first|refine And.intro (Eq.refl (α := World) _) ?_|refine forall_one ?_|refine oQ_nil ?_) | (with_reducible refine oQ_of ⟨_, rfl⟩ (fun W0 hW0 => by (refine oM_gen (fun Kv hK => ?_)); simp [go_sem]; (first | exact hK _ _ ⟨rfl, rfl⟩ | exact ⟨by omega, hK _ _ ⟨rfl, rfl⟩⟩)) ?_)
  | (with_reducible first|refine gdtT ?_|refine gdtF ?_|refine gdfF ?_|refine gdfT ?_|refine gdu ?_ _|refine gdt_pos (by first|assumption|omega) ?_|refine gdt_neg (by first|assumption|omega) ?_|refine gdt_split (fun hg => ?_) (fun hg => ?_)|refine gdf_pos (by first|assumption|omega) ?_|refine gdf_neg (by first|assumption|omega) ?_|refine gdf_split (fun hg => ?_) (fun hg => ?_)|refine gdtn_pos (by first|assumption|omega) ?_|refine gdtn_neg (by first|assumption|omega) ?_|refine gdtn_split (fun hg => ?_) (fun hg => ?_)|refine gdfn_pos (by first|assumption|omega) ?_|refine gdfn_neg (by first|assumption|omega) ?_|refine gdfn_split (fun hg => ?_) (fun hg => ?_)|refine gdtbn_pos (by assumption) ?_|refine gdtbn_neg (by assumption) ?_|refine gdfbn_pos (by assumption) ?_|refine gdfbn_neg (by assumption) ?_|refine gdtb_pos (by assumption) ?_|refine gdtb_neg (by assumption) ?_|refine gdtb_split (fun hg => ?_) (fun hg => ?_)|refine gdfb_pos (by assumption) ?_|refine gdfb_neg (by assumption) ?_|refine gdfb_split (fun hg => ?_) (fun hg => ?_)|refine pickT ?_|refine pickF ?_|refine pick_pos (by first|assumption|omega) ?_|refine pick_neg (by first|assumption|omega) ?_|refine pickn_pos (by first|assumption|omega) ?_|refine pickn_neg (by first|assumption|omega) ?_|refine pickbn_pos (by assumption) ?_|refine pickbn_neg (by assumption) ?_|refine pickb_pos (by assumption) ?_|refine pickb_neg (by assumption) ?_|refine condT ?_|refine condF ?_|refine cond_pos (by first|assumption|omega) ?_|refine cond_neg (by first|assumption|omega) ?_|refine condM_dec (fun hg => ?_) (fun hg => ?_)|refine condn_pos (by first|assumption|omega) ?_|refine condn_neg (by first|assumption|omega) ?_|refine condM_ndec (fun hg => ?_) (fun hg => ?_)|refine condbn_pos (by assumption) ?_|refine condbn_neg (by assumption) ?_|refine condbn_split (fun hg => ?_) (fun hg => ?_)|refine condb_pos (by assumption) ?_|refine condb_neg (by assumption) ?_|refine condM_b (fun hg => ?_) (fun hg => ?_))
  | ((with_reducible refine oM_gen (fun Kv hK => ?_)); simp [go_sem, e]; (try simp (disch := omega) only [wrapI64, wrapU8, wrapU32, wrapU64]); (first | refine hK _ _ ?_ | refine And.intro (by omega) (hK _ _ ?_)); clear hK; clear Kv)))
  exact k _ f0
theorem test2_ok {x : Nat} {f : Int} (p : Int × Int) (v : Value) (hx : w.heap[x]? = some (.cells #[.int .i64 f] 3 (0, 0))) (k : ∀ w', Fr (fun _ => False) w w' → K (.bool (decide (p.1 = f))) w') : callM Try.prog 58 #[.agg #[.int .i64 p.1, .int .i64 p.2], v, .pointer (some ⟨x, 0, none⟩)] K w := by
  apply sh_58_ok
  unfold sh_58
  have hlt := (Array.getElem?_eq_some_iff.1 hx).1
  have f0 : Fr (fun _ => False) w (w.alloc (.cells #[.int .i64 p.1, .int .i64 p.2] 69 (0, 0))) := (Fr.refl _ _).alloc _
  have hx2 := (f0.block x hlt (fun h => h)).trans hx
  have e := cell_of_block hx2 0
  simp at e
  repeat (any_goals (first
  | (with_reducible refine pureM_in ?_)
  | (with_reducible first|refine pureQ_in ?_|refine gdQ_conv (fun _ => ?_)|refine pickQT ?_|refine pickQF ?_|refine pickQ_pos (by first|assumption|omega) ?_|refine pickQ_neg (by first|assumption|omega) ?_|refine pickQn_pos (by first|assumption|omega) ?_|refine pickQn_neg (by first|assumption|omega) ?_) | ((with_reducible refine oQ_one ?_ ?_); exact ⟨_, rfl⟩) | (with_reducible first|refine And.intro (Eq.refl (α := World) _) ?_|refine forall_one ?_|refine oQ_nil ?_) | (with_reducible refine oQ_of ⟨_, rfl⟩ (fun W0 hW0 => by (refine oM_gen (fun Kv hK => ?_)); simp [go_sem]; (first | exact hK _ _ ⟨rfl, rfl⟩ | exact ⟨by omega, hK _ _ ⟨rfl, rfl⟩⟩)) ?_)
  | (with_reducible first|refine gdtT ?_|refine gdtF ?_|refine gdfF ?_|refine gdfT ?_|refine gdu ?_ _|refine gdt_pos (by first|assumption|omega) ?_|refine gdt_neg (by first|assumption|omega) ?_|refine gdt_split (fun hg => ?_) (fun hg => ?_)|refine gdf_pos (by first|assumption|omega) ?_|refine gdf_neg (by first|assumption|omega) ?_|refine gdf_split (fun hg => ?_) (fun hg => ?_)|refine gdtn_pos (by first|assumption|omega) ?_|refine gdtn_neg (by first|assumption|omega) ?_|refine gdtn_split (fun hg => ?_) (fun hg => ?_)|refine gdfn_pos (by first|assumption|omega) ?_|refine gdfn_neg (by first|assumption|omega) ?_|refine gdfn_split (fun hg => ?_) (fun hg => ?_)|refine gdtbn_pos (by assumption) ?_|refine gdtbn_neg (by assumption) ?_|refine gdfbn_pos (by assumption) ?_|refine gdfbn_neg (by assumption) ?_|refine gdtb_pos (by assumption) ?_|refine gdtb_neg (by assumption) ?_|refine gdtb_split (fun hg => ?_) (fun hg => ?_)|refine gdfb_pos (by assumption) ?_|refine gdfb_neg (by assumption) ?_|refine gdfb_split (fun hg => ?_) (fun hg => ?_)|refine pickT ?_|refine pickF ?_|refine pick_pos (by first|assumption|omega) ?_|refine pick_neg (by first|assumption|omega) ?_|refine pickn_pos (by first|assumption|omega) ?_|refine pickn_neg (by first|assumption|omega) ?_|refine pickbn_pos (by assumption) ?_|refine pickbn_neg (by assumption) ?_|refine pickb_pos (by assumption) ?_|refine pickb_neg (by assumption) ?_|refine condT ?_|refine condF ?_|refine cond_pos (by first|assumption|omega) ?_|refine cond_neg (by first|assumption|omega) ?_|refine condM_dec (fun hg => ?_) (fun hg => ?_)|refine condn_pos (by first|assumption|omega) ?_|refine condn_neg (by first|assumption|omega) ?_|refine condM_ndec (fun hg => ?_) (fun hg => ?_)|refine condbn_pos (by assumption) ?_|refine condbn_neg (by assumption) ?_|refine condbn_split (fun hg => ?_) (fun hg => ?_)|refine condb_pos (by assumption) ?_|refine condb_neg (by assumption) ?_|refine condM_b (fun hg => ?_) (fun hg => ?_))
  | ((with_reducible refine oM_gen (fun Kv hK => ?_)); simp [go_sem, e]; (try simp (disch := omega) only [wrapI64, wrapU8, wrapU32, wrapU64]); (first | refine hK _ _ ?_ | refine And.intro (by omega) (hK _ _ ?_)); clear hK; clear Kv)))
  exact k _ f0
/-- where a file's sectors begin -/
def idxOf (f : Int) : List (Int × Int) → Int
  | [] => -1
  | p :: q => if p.1 = f then 0 else if idxOf f q = -1 then -1 else idxOf f q + 1
theorem idxOf_split (f : Int) (q : List (Int × Int)) : (idxOf f q = -1 ∧ ∀ p ∈ q, p.1 ≠ f) ∨ ∃ q1 p q2, q = q1 ++ p :: q2 ∧ p.1 = f ∧ (∀ r ∈ q1, r.1 ≠ f) ∧ idxOf f q = q1.length := by
  induction q with
  | nil => exact .inl ⟨rfl, by simp⟩
  | cons p q ih =>
    by_cases hp : p.1 = f
    · exact .inr ⟨[], p, q, rfl, hp, by simp, by simp [idxOf, hp]⟩
    · rcases ih with ⟨h1, h2⟩ | ⟨q1, r, q2, rfl, h2, h3, h4⟩
      · refine .inl ⟨by simp [idxOf, hp, h1], ?_⟩
        intro r hr
        rcases List.mem_cons.1 hr with rfl | hr
        · exact hp
        · exact h2 r hr
      · refine .inr ⟨p :: q1, r, q2, rfl, h2, ?_, ?_⟩
        · intro x hx
          rcases List.mem_cons.1 hx with rfl | hx
          · exact hp
          · exact h3 x hx
        · simp only [idxOf, hp, if_false, h4, List.length_cons]
          rw [if_neg (by omega)]
          omega
theorem idxOf_drop (f : Int) (q : List (Int × Int)) (j : Nat) (hj : ∀ p ∈ q.take j, p.1 ≠ f) (p : Int × Int) (hp : q[j]? = some p) (hf : p.1 = f) : idxOf f q = j := by
  induction q generalizing j with
  | nil => simp at hp
  | cons r q ih =>
    cases j with
    | zero =>
      simp only [List.getElem?_cons_zero, Option.some.injEq] at hp
      subst hp
      simp [idxOf, hf]
    | succ j =>
      have hr : r.1 ≠ f := hj r (by simp)
      have := ih j (fun x hx => hj x (by simp [hx])) (by simpa using hp)
      simp only [idxOf, hr, if_false, this]
      rw [if_neg (by omega)]
      omega
theorem idxOf_none (f : Int) (q : List (Int × Int)) (h : ∀ p ∈ q, p.1 ≠ f) : idxOf f q = -1 := by
  induction q with
  | nil => rfl
  | cons r q ih =>
    have hr : r.1 ≠ f := h r (List.mem_cons_self ..)
    simp [idxOf, hr, ih (fun p hp => h p (List.mem_cons_of_mem _ hp))]
theorem sec_cells {v : Value} {q : List (Int × Int)} (ho : w.ownsRow 0 69 2 v q.length (flat secC q)) {j : Nat} {p : Int × Int} (hj : q[j]? = some p) : ∃ g c, v = .slice (some ⟨g, 0, none⟩) q.length c ∧ w.cell? ⟨g, j * 2, none⟩ = some (.int .i64 p.1) ∧ w.cell? ⟨g, j * 2 + 1, none⟩ = some (.int .i64 p.2) := by
  have hlt := (List.getElem?_eq_some_iff.1 hj).1
  obtain ⟨g, cap, cur, rfl, _, _, _, _, _, hc⟩ := owns_cells ho (by omega)
  refine ⟨g, cap, rfl, hc _ _ ?_, hc _ _ ?_⟩
  · have := flat_at secC_len q j 0 hj (by omega)
    simpa [secC] using this
  · have := flat_at secC_len q j 1 hj (by omega)
    simpa [secC] using this
theorem idxSec {g n c k : Nat} (hk : k < n) (w : World) : (Instr.indexAt 52 (.slice (some ⟨g, 0, none⟩) n c) (.int .i64 k)).run Try.prog w = .ok (.pointer (some ⟨g, k * 2, none⟩)) w := by
  rw [run_indexAt_slice (h := by kernel_rfl), if_pos (by omega)]
  have hs : (sizeOf (Try.prog.elem 52)).run Try.prog w = .ok 2 w := by kernel_rfl
  rw [hs]
  simp only [Result.andThen, Int.toNat_natCast, add_none, Nat.zero_add]
theorem index_ok {x : Nat} {f : Int} {v : Value} {q : List (Int × Int)} (hq : q.length < 2 ^ 40) (hx : w.heap[x]? = some (.cells #[.int .i64 f] 3 (0, 0))) (ho : w.ownsRow 0 69 2 v q.length (flat secC q)) (k : ∀ w', Fr (fun _ => False) w w' → K (.int .i64 (idxOf f q)) w') : callM Try.prog 62 #[v, .func (.func 56) #[] #[.pointer (some ⟨x, 0, none⟩)]] K w := by
  apply sh_62_ok
  unfold sh_62
  obtain ⟨va, vc, rfl⟩ := owns_len ho
  repeat (any_goals (first
  | (with_reducible refine pureM_in ?_)
  | (with_reducible first|refine pureQ_in ?_|refine gdQ_conv (fun _ => ?_)|refine pickQT ?_|refine pickQF ?_|refine pickQ_pos (by first|assumption|omega) ?_|refine pickQ_neg (by first|assumption|omega) ?_|refine pickQn_pos (by first|assumption|omega) ?_|refine pickQn_neg (by first|assumption|omega) ?_) | ((with_reducible refine oQ_one ?_ ?_); exact ⟨_, rfl⟩) | (with_reducible first|refine And.intro (Eq.refl (α := World) _) ?_|refine forall_one ?_|refine oQ_nil ?_) | (with_reducible refine oQ_of ⟨_, rfl⟩ (fun W0 hW0 => by (refine oM_gen (fun Kv hK => ?_)); simp [go_sem]; (first | exact hK _ _ ⟨rfl, rfl⟩ | exact ⟨by omega, hK _ _ ⟨rfl, rfl⟩⟩)) ?_)
  | (with_reducible first|refine gdtT ?_|refine gdtF ?_|refine gdfF ?_|refine gdfT ?_|refine gdu ?_ _|refine gdt_pos (by first|assumption|omega) ?_|refine gdt_neg (by first|assumption|omega) ?_|refine gdt_split (fun hg => ?_) (fun hg => ?_)|refine gdf_pos (by first|assumption|omega) ?_|refine gdf_neg (by first|assumption|omega) ?_|refine gdf_split (fun hg => ?_) (fun hg => ?_)|refine gdtn_pos (by first|assumption|omega) ?_|refine gdtn_neg (by first|assumption|omega) ?_|refine gdtn_split (fun hg => ?_) (fun hg => ?_)|refine gdfn_pos (by first|assumption|omega) ?_|refine gdfn_neg (by first|assumption|omega) ?_|refine gdfn_split (fun hg => ?_) (fun hg => ?_)|refine gdtbn_pos (by assumption) ?_|refine gdtbn_neg (by assumption) ?_|refine gdfbn_pos (by assumption) ?_|refine gdfbn_neg (by assumption) ?_|refine gdtb_pos (by assumption) ?_|refine gdtb_neg (by assumption) ?_|refine gdtb_split (fun hg => ?_) (fun hg => ?_)|refine gdfb_pos (by assumption) ?_|refine gdfb_neg (by assumption) ?_|refine gdfb_split (fun hg => ?_) (fun hg => ?_)|refine pickT ?_|refine pickF ?_|refine pick_pos (by first|assumption|omega) ?_|refine pick_neg (by first|assumption|omega) ?_|refine pickn_pos (by first|assumption|omega) ?_|refine pickn_neg (by first|assumption|omega) ?_|refine pickbn_pos (by assumption) ?_|refine pickbn_neg (by assumption) ?_|refine pickb_pos (by assumption) ?_|refine pickb_neg (by assumption) ?_|refine condT ?_|refine condF ?_|refine cond_pos (by first|assumption|omega) ?_|refine cond_neg (by first|assumption|omega) ?_|refine condM_dec (fun hg => ?_) (fun hg => ?_)|refine condn_pos (by first|assumption|omega) ?_|refine condn_neg (by first|assumption|omega) ?_|refine condM_ndec (fun hg => ?_) (fun hg => ?_)|refine condbn_pos (by assumption) ?_|refine condbn_neg (by assumption) ?_|refine condbn_split (fun hg => ?_) (fun hg => ?_)|refine condb_pos (by assumption) ?_|refine condb_neg (by assumption) ?_|refine condM_b (fun hg => ?_) (fun hg => ?_))
  | ((with_reducible refine oM_gen (fun Kv hK => ?_)); simp [go_sem]; (try simp (disch := omega) only [wrapI64, wrapU8, wrapU32, wrapU64]); (first | refine hK _ _ ?_ | refine And.intro (by omega) (hK _ _ ?_)); clear hK; clear Kv)))
  refine ⟨fun l w' => ∃ u1 u2, ∃ j : Nat, l = [u1, u2, .int .i64 (j : Int)] ∧ j ≤ q.length ∧ (∀ p ∈ q.take j, p.1 ≠ f) ∧ Fr (fun _ => False) w w', fun l _ => match l with | [_, _, .int _ n] => ((q.length : Int) - n).toNat | _ => 0, ⟨_, _, 0, rfl, by omega, by simp, Fr.refl _ _⟩, ?_⟩
  rintro l u w1 ⟨u1, u2, j, rfl, hj, hpre, fr⟩
  simp only [List.getD_cons_zero, List.getD_cons_succ]
  repeat (any_goals (first
  | (with_reducible refine pureM_in ?_)
  | (with_reducible first|refine pureQ_in ?_|refine gdQ_conv (fun _ => ?_)|refine pickQT ?_|refine pickQF ?_|refine pickQ_pos (by first|assumption|omega) ?_|refine pickQ_neg (by first|assumption|omega) ?_|refine pickQn_pos (by first|assumption|omega) ?_|refine pickQn_neg (by first|assumption|omega) ?_) | ((with_reducible refine oQ_one ?_ ?_); exact ⟨_, rfl⟩) | (with_reducible first|refine And.intro (Eq.refl (α := World) _) ?_|refine forall_one ?_|refine oQ_nil ?_) | (with_reducible refine oQ_of ⟨_, rfl⟩ (fun W0 hW0 => by (refine oM_gen (fun Kv hK => ?_)); simp [go_sem]; (first | exact hK _ _ ⟨rfl, rfl⟩ | exact ⟨by omega, hK _ _ ⟨rfl, rfl⟩⟩)) ?_)
  | (with_reducible first|refine gdtT ?_|refine gdtF ?_|refine gdfF ?_|refine gdfT ?_|refine gdu ?_ _|refine gdt_pos (by first|assumption|omega) ?_|refine gdt_neg (by first|assumption|omega) ?_|refine gdt_split (fun hg => ?_) (fun hg => ?_)|refine gdf_pos (by first|assumption|omega) ?_|refine gdf_neg (by first|assumption|omega) ?_|refine gdf_split (fun hg => ?_) (fun hg => ?_)|refine gdtn_pos (by first|assumption|omega) ?_|refine gdtn_neg (by first|assumption|omega) ?_|refine gdtn_split (fun hg => ?_) (fun hg => ?_)|refine gdfn_pos (by first|assumption|omega) ?_|refine gdfn_neg (by first|assumption|omega) ?_|refine gdfn_split (fun hg => ?_) (fun hg => ?_)|refine gdtbn_pos (by assumption) ?_|refine gdtbn_neg (by assumption) ?_|refine gdfbn_pos (by assumption) ?_|refine gdfbn_neg (by assumption) ?_|refine gdtb_pos (by assumption) ?_|refine gdtb_neg (by assumption) ?_|refine gdtb_split (fun hg => ?_) (fun hg => ?_)|refine gdfb_pos (by assumption) ?_|refine gdfb_neg (by assumption) ?_|refine gdfb_split (fun hg => ?_) (fun hg => ?_)|refine pickT ?_|refine pickF ?_|refine pick_pos (by first|assumption|omega) ?_|refine pick_neg (by first|assumption|omega) ?_|refine pickn_pos (by first|assumption|omega) ?_|refine pickn_neg (by first|assumption|omega) ?_|refine pickbn_pos (by assumption) ?_|refine pickbn_neg (by assumption) ?_|refine pickb_pos (by assumption) ?_|refine pickb_neg (by assumption) ?_|refine condT ?_|refine condF ?_|refine cond_pos (by first|assumption|omega) ?_|refine cond_neg (by first|assumption|omega) ?_|refine condM_dec (fun hg => ?_) (fun hg => ?_)|refine condn_pos (by first|assumption|omega) ?_|refine condn_neg (by first|assumption|omega) ?_|refine condM_ndec (fun hg => ?_) (fun hg => ?_)|refine condbn_pos (by assumption) ?_|refine condbn_neg (by assumption) ?_|refine condbn_split (fun hg => ?_) (fun hg => ?_)|refine condb_pos (by assumption) ?_|refine condb_neg (by assumption) ?_|refine condM_b (fun hg => ?_) (fun hg => ?_))
  | ((with_reducible refine oM_gen (fun Kv hK => ?_)); simp [go_sem]; (try simp (disch := omega) only [wrapI64, wrapU8, wrapU32, wrapU64]); (first | refine hK _ _ ?_ | refine And.intro (by omega) (hK _ _ ?_)); clear hK; clear Kv)))
  · have hlt : j < q.length := by omega
    have hx1 := (fr.block x (Array.getElem?_eq_some_iff.1 hx).1 (fun h => h)).trans hx
    have ho1 : w1.ownsRow 0 69 2 (.slice va q.length vc) q.length (flat secC q) := owns_keep ho (fun i hi => fr.block i (owns_own ho hi).1 (fun h => h))
    obtain ⟨g, c, hv, e0, e1⟩ := sec_cells ho1 (List.getElem?_eq_getElem hlt)
    cases hv
    have hix := idxSec (c := vc) (g := g) hlt w1
    repeat (any_goals (first
    | (with_reducible refine pureM_in ?_)
    | (with_reducible first|refine pureQ_in ?_|refine gdQ_conv (fun _ => ?_)|refine pickQT ?_|refine pickQF ?_|refine pickQ_pos (by first|assumption|omega) ?_|refine pickQ_neg (by first|assumption|omega) ?_|refine pickQn_pos (by first|assumption|omega) ?_|refine pickQn_neg (by first|assumption|omega) ?_) | ((with_reducible refine oQ_one ?_ ?_); exact ⟨_, rfl⟩) | (with_reducible first|refine And.intro (Eq.refl (α := World) _) ?_|refine forall_one ?_|refine oQ_nil ?_) | (with_reducible refine oQ_of ⟨_, rfl⟩ (fun W0 hW0 => by (refine oM_gen (fun Kv hK => ?_)); simp [go_sem]; (first | exact hK _ _ ⟨rfl, rfl⟩ | exact ⟨by omega, hK _ _ ⟨rfl, rfl⟩⟩)) ?_)
    | (with_reducible refine oM_callv1 isBody56 ?_)
    | (with_reducible first|refine gdtT ?_|refine gdtF ?_|refine gdfF ?_|refine gdfT ?_|refine gdu ?_ _|refine gdt_pos (by first|assumption|omega) ?_|refine gdt_neg (by first|assumption|omega) ?_|refine gdt_split (fun hg => ?_) (fun hg => ?_)|refine gdf_pos (by first|assumption|omega) ?_|refine gdf_neg (by first|assumption|omega) ?_|refine gdf_split (fun hg => ?_) (fun hg => ?_)|refine gdtn_pos (by first|assumption|omega) ?_|refine gdtn_neg (by first|assumption|omega) ?_|refine gdtn_split (fun hg => ?_) (fun hg => ?_)|refine gdfn_pos (by first|assumption|omega) ?_|refine gdfn_neg (by first|assumption|omega) ?_|refine gdfn_split (fun hg => ?_) (fun hg => ?_)|refine gdtbn_pos (by assumption) ?_|refine gdtbn_neg (by assumption) ?_|refine gdfbn_pos (by assumption) ?_|refine gdfbn_neg (by assumption) ?_|refine gdtb_pos (by assumption) ?_|refine gdtb_neg (by assumption) ?_|refine gdtb_split (fun hg => ?_) (fun hg => ?_)|refine gdfb_pos (by assumption) ?_|refine gdfb_neg (by assumption) ?_|refine gdfb_split (fun hg => ?_) (fun hg => ?_)|refine pickT ?_|refine pickF ?_|refine pick_pos (by first|assumption|omega) ?_|refine pick_neg (by first|assumption|omega) ?_|refine pickn_pos (by first|assumption|omega) ?_|refine pickn_neg (by first|assumption|omega) ?_|refine pickbn_pos (by assumption) ?_|refine pickbn_neg (by assumption) ?_|refine pickb_pos (by assumption) ?_|refine pickb_neg (by assumption) ?_|refine condT ?_|refine condF ?_|refine cond_pos (by first|assumption|omega) ?_|refine cond_neg (by first|assumption|omega) ?_|refine condM_dec (fun hg => ?_) (fun hg => ?_)|refine condn_pos (by first|assumption|omega) ?_|refine condn_neg (by first|assumption|omega) ?_|refine condM_ndec (fun hg => ?_) (fun hg => ?_)|refine condbn_pos (by assumption) ?_|refine condbn_neg (by assumption) ?_|refine condbn_split (fun hg => ?_) (fun hg => ?_)|refine condb_pos (by assumption) ?_|refine condb_neg (by assumption) ?_|refine condM_b (fun hg => ?_) (fun hg => ?_))
    | ((with_reducible refine oM_gen (fun Kv hK => ?_)); simp [go_sem, hix, e0, e1]; (try simp (disch := omega) only [wrapI64, wrapU8, wrapU32, wrapU64]); (first | refine hK _ _ ?_ | refine And.intro (by omega) (hK _ _ ?_)); clear hK; clear Kv)))
    refine test1_ok (f := f) q[j] hx1 (fun w2 f2 => ?_)
    repeat (any_goals (first
    | (with_reducible refine pureM_in ?_)
    | (with_reducible first|refine pureQ_in ?_|refine gdQ_conv (fun _ => ?_)|refine pickQT ?_|refine pickQF ?_|refine pickQ_pos (by first|assumption|omega) ?_|refine pickQ_neg (by first|assumption|omega) ?_|refine pickQn_pos (by first|assumption|omega) ?_|refine pickQn_neg (by first|assumption|omega) ?_) | ((with_reducible refine oQ_one ?_ ?_); exact ⟨_, rfl⟩) | (with_reducible first|refine And.intro (Eq.refl (α := World) _) ?_|refine forall_one ?_|refine oQ_nil ?_) | (with_reducible refine oQ_of ⟨_, rfl⟩ (fun W0 hW0 => by (refine oM_gen (fun Kv hK => ?_)); simp [go_sem]; (first | exact hK _ _ ⟨rfl, rfl⟩ | exact ⟨by omega, hK _ _ ⟨rfl, rfl⟩⟩)) ?_)
    | (with_reducible first|refine gdtT ?_|refine gdtF ?_|refine gdfF ?_|refine gdfT ?_|refine gdu ?_ _|refine gdt_pos (by first|assumption|omega) ?_|refine gdt_neg (by first|assumption|omega) ?_|refine gdt_split (fun hg => ?_) (fun hg => ?_)|refine gdf_pos (by first|assumption|omega) ?_|refine gdf_neg (by first|assumption|omega) ?_|refine gdf_split (fun hg => ?_) (fun hg => ?_)|refine gdtn_pos (by first|assumption|omega) ?_|refine gdtn_neg (by first|assumption|omega) ?_|refine gdtn_split (fun hg => ?_) (fun hg => ?_)|refine gdfn_pos (by first|assumption|omega) ?_|refine gdfn_neg (by first|assumption|omega) ?_|refine gdfn_split (fun hg => ?_) (fun hg => ?_)|refine gdtbn_pos (by assumption) ?_|refine gdtbn_neg (by assumption) ?_|refine gdfbn_pos (by assumption) ?_|refine gdfbn_neg (by assumption) ?_|refine gdtb_pos (by assumption) ?_|refine gdtb_neg (by assumption) ?_|refine gdtb_split (fun hg => ?_) (fun hg => ?_)|refine gdfb_pos (by assumption) ?_|refine gdfb_neg (by assumption) ?_|refine gdfb_split (fun hg => ?_) (fun hg => ?_)|refine pickT ?_|refine pickF ?_|refine pick_pos (by first|assumption|omega) ?_|refine pick_neg (by first|assumption|omega) ?_|refine pickn_pos (by first|assumption|omega) ?_|refine pickn_neg (by first|assumption|omega) ?_|refine pickbn_pos (by assumption) ?_|refine pickbn_neg (by assumption) ?_|refine pickb_pos (by assumption) ?_|refine pickb_neg (by assumption) ?_|refine condT ?_|refine condF ?_|refine cond_pos (by first|assumption|omega) ?_|refine cond_neg (by first|assumption|omega) ?_|refine condM_dec (fun hg => ?_) (fun hg => ?_)|refine condn_pos (by first|assumption|omega) ?_|refine condn_neg (by first|assumption|omega) ?_|refine condM_ndec (fun hg => ?_) (fun hg => ?_)|refine condbn_pos (by assumption) ?_|refine condbn_neg (by assumption) ?_|refine condbn_split (fun hg => ?_) (fun hg => ?_)|refine condb_pos (by assumption) ?_|refine condb_neg (by assumption) ?_|refine condM_b (fun hg => ?_) (fun hg => ?_))
    | ((with_reducible refine oM_gen (fun Kv hK => ?_)); simp [go_sem]; (try simp (disch := omega) only [wrapI64, wrapU8, wrapU32, wrapU64]); (first | refine hK _ _ ?_ | refine And.intro (by omega) (hK _ _ ?_)); clear hK; clear Kv)))
    · have hg' : q[j].1 = f := by assumption
      rw [idxOf_drop f q j hpre _ (List.getElem?_eq_getElem hlt) hg'] at k
      exact k w2 (fr.trans f2 (fun _ h => h.elim))
    · have hg' : ¬ q[j].1 = f := by assumption
      refine ⟨⟨_, _, j + 1, rfl, by omega, ?_, fr.trans f2 (fun _ h => h.elim)⟩, ?_⟩
      · intro p hp
        rw [List.take_succ_eq_append_getElem hlt] at hp
        rcases List.mem_append.1 hp with hp | hp
        · exact hpre p hp
        · simp only [List.mem_singleton] at hp
          rw [hp]; exact hg'
      · show ((q.length : Int) - ((j : Int) + 1)).toNat < _
        omega
  · rw [idxOf_none f q (by
      rw [List.take_of_length_le (by omega)] at hpre
      exact hpre)] at k
    exact k w1 fr
theorem clear_at {t T e : TypeId} {z : Value} {g o n c : Nat} {cur : Array Value} {zs : List Value} (ht : Try.prog.underlying t = some (.slice e)) (hv : ∀ w, (zeroValue e).run Try.prog w = .ok z w) (hn : 0 < n) (hzs : (Builtin.zeroCells z.cells n).toList = zs) (h1 : ∀ v ∈ zs, v.oneCell' = true) (hg : w.heap[g]? = some (.cells cur e (0, 0))) (hfit : o + zs.length ≤ cur.size)
    (k : ∀ w' cur', w.grownBy w' (some g) → w'.heap[g]? = some (.cells cur' e (0, 0)) → cur'.size = cur.size → (∀ i, i < o → cur'[i]? = cur[i]?) → K (.tuple #[]) w') : oM Try.prog (.call { callee := .builtin .clear, args := #[.tmp 0], argTypes := #[t] }) T [.slice (some ⟨g, o, none⟩) n c] K w := by
  have hst := run_storeCells_at Try.prog g o e zs 0 cur w hg (by simpa using hfit) h1
  rw [oM_clear]
  have hr : (Builtin.clear_ #[t] T #[.slice (some ⟨g, o, none⟩) n c]).run Try.prog w = .ok (.tuple #[]) (w.setRow g (cur.toList.take o ++ zs ++ cur.toList.drop (o + zs.length)).toArray) := by
    obtain ⟨m, rfl⟩ : ∃ m, n = m + 1 := ⟨n - 1, by omega⟩
    simp only [Nat.add_zero] at hst
    simp [Builtin.clear_, run_underlying ht, hv, hzs, hst]
  rw [hr]
  refine k _ _ (grown_setRow _ _ _) (setRow_heap w g _ _ e (0, 0) hg) ?_ ?_
  · simp
    omega
  · intro i hi
    simp only [List.getElem?_toArray, List.append_assoc]
    rw [List.getElem?_append_left (by simp; omega), List.getElem?_take_of_lt hi]
    simp
theorem store2_at {t T e : TypeId} {x y : Value} {g o : Nat} {cur : Array Value} (hs : ∀ w, (sizeOf t).run Try.prog w = .ok 2 w) (hx : x.oneCell' = true) (hy : y.oneCell' = true) (hg : w.heap[g]? = some (.cells cur e (0, 0))) (hfit : o + 2 ≤ cur.size)
    (k : ∀ w' cur', w.grownBy w' (some g) → w'.heap[g]? = some (.cells cur' e (0, 0)) → cur'.size = cur.size → (∀ i, i ≠ o → i ≠ o + 1 → cur'[i]? = cur[i]?) → cur'[o]? = some x → cur'[o + 1]? = some y → K undef w') : oM Try.prog (.store t (.tmp 0) (.tmp 1)) T [.pointer (some ⟨g, o, none⟩), .agg #[x, y]] K w := by
  have hst := run_storeCells_at Try.prog g o e [x, y] 0 cur w hg (by simpa using hfit) (by
    intro v hv
    simp at hv
    rcases hv with rfl | rfl
    · exact hx
    · exact hy)
  rw [oM_store]
  have hr : (Instr.storeAt t (.pointer (some ⟨g, o, none⟩)) (.agg #[x, y])).run Try.prog w = .ok () (w.setRow g (cur.toList.take o ++ [x, y] ++ cur.toList.drop (o + 2)).toArray) := by
    simp only [Nat.add_zero, List.length_cons, List.length_nil, Nat.zero_add] at hst
    have e2 : (Value.agg #[x, y]).cells = #[x, y] := rfl
    simp [Instr.storeAt, storeVar, hs, e2, go_sem]
    simpa [go_sem] using hst
  rw [hr]
  have hl : (cur.toList.take o).length = o := by simp; omega
  refine k _ _ (grown_setRow _ _ _) (setRow_heap w g _ _ e (0, 0) hg) ?_ ?_ ?_ ?_
  · simp
    omega
  · intro i h1 h2
    simp only [List.getElem?_toArray, List.append_assoc, List.cons_append, List.nil_append]
    by_cases hi : i < o
    · rw [List.getElem?_append_left (by rw [hl]; exact hi), List.getElem?_take_of_lt hi]
      simp
    · rw [List.getElem?_append_right (by rw [hl]; omega), hl]
      obtain ⟨m, rfl⟩ : ∃ m, i = o + (m + 2) := ⟨i - o - 2, by omega⟩
      have e3 : o + (m + 2) - o = m + 2 := by omega
      rw [e3]
      simp only [List.getElem?_cons_succ, List.getElem?_drop, Array.getElem?_toList]
      congr 1
      omega
  · simp only [List.getElem?_toArray, List.append_assoc, List.cons_append, List.nil_append]
    rw [List.getElem?_append_right (by rw [hl]; omega), hl]
    simp
  · simp only [List.getElem?_toArray, List.append_assoc, List.cons_append, List.nil_append]
    rw [List.getElem?_append_right (by rw [hl]; omega), hl]
    have e3 : o + 1 - o = 1 := by omega
    rw [e3]
    simp
theorem zero_sec (n : Nat) : (Builtin.zeroCells (Value.agg #[.int .i64 0, .int .i64 0]).cells n).toList.length = n * 2 ∧ ∀ v ∈ (Builtin.zeroCells (Value.agg #[.int .i64 0, .int .i64 0]).cells n).toList, v.oneCell' = true := by
  constructor
  · simp [Builtin.zeroCells, Value.cells]
  · intro v hv
    simp only [Builtin.zeroCells, Array.toList_map, List.mem_map] at hv
    obtain ⟨i, _, rfl⟩ := hv
    have : i % 2 = 0 ∨ i % 2 = 1 := by omega
    rcases this with e | e <;> simp [Value.cells, e, Value.oneCell']
def keepQ (f : Int) (q : List (Int × Int)) : List (Int × Int) := q.filter (fun p => decide (p.1 ≠ f))
theorem keepQ_take (f : Int) (q : List (Int × Int)) (j : Nat) (h : j < q.length) : keepQ f (q.take (j + 1)) = if q[j].1 = f then keepQ f (q.take j) else keepQ f (q.take j) ++ [q[j]] := by
  unfold keepQ
  rw [List.take_succ_eq_append_getElem h, List.filter_append]
  by_cases hf : q[j].1 = f
  · rw [if_pos hf]; simp [hf]
  · rw [if_neg hf]; simp [hf]
/-- the state of the row while sectors are taken out -/
def Taking (w : World) (g cap : Nat) (f : Int) (q : List (Int × Int)) (j : Nat) : Prop :=
  ∃ cur : Array Value, w.heap[g]? = some (.cells cur 69 (0, 0)) ∧ cur.size = cap * 2 ∧ (∀ (k : Nat) (x : Value), (flat secC (keepQ f (q.take j)))[k]? = some x → cur[k]? = some x) ∧ (∀ (k : Nat) (x : Value), 2 * j ≤ k → (flat secC q)[k]? = some x → cur[k]? = some x)
theorem delete_ok {x : Nat} {f : Int} {v : Value} {q : List (Int × Int)} (hq : q.length < 2 ^ 40) (hx : w.heap[x]? = some (.cells #[.int .i64 f] 3 (0, 0))) (ho : w.ownsRow 0 69 2 v q.length (flat secC q)) (k : ∀ v' w', w'.ownsRow 0 69 2 v' (keepQ f q).length (flat secC (keepQ f q)) → Fr (fun i => v.ownBlock = some i) w w' → (∀ i, v'.ownBlock = some i → v.ownBlock = some i) → K v' w') : callM Try.prog 55 #[v, .func (.func 56) #[] #[.pointer (some ⟨x, 0, none⟩)]] K w := by
  apply sh_55_ok
  unfold sh_55
  refine index_ok hq hx ho (fun w1 f1 => ?_)
  have hx1 := (f1.block x (Array.getElem?_eq_some_iff.1 hx).1 (fun h => h)).trans hx
  have ho1 : w1.ownsRow 0 69 2 v q.length (flat secC q) := owns_keep ho (fun i hi => f1.block i (owns_own ho hi).1 (fun h => h))
  rcases idxOf_split f q with ⟨hi, hall⟩ | ⟨q1, p, q2, hsp, hpf, hpre, hi⟩
  · rw [hi]
    have hk : keepQ f q = q := List.filter_eq_self.2 (fun p hp => by simpa using hall p hp)
    rw [hk] at k
    repeat (any_goals (first
    | (with_reducible refine pureM_in ?_)
    | (with_reducible first|refine pureQ_in ?_|refine gdQ_conv (fun _ => ?_)|refine pickQT ?_|refine pickQF ?_|refine pickQ_pos (by first|assumption|omega) ?_|refine pickQ_neg (by first|assumption|omega) ?_|refine pickQn_pos (by first|assumption|omega) ?_|refine pickQn_neg (by first|assumption|omega) ?_) | ((with_reducible refine oQ_one ?_ ?_); exact ⟨_, rfl⟩) | (with_reducible first|refine And.intro (Eq.refl (α := World) _) ?_|refine forall_one ?_|refine oQ_nil ?_) | (with_reducible refine oQ_of ⟨_, rfl⟩ (fun W0 hW0 => by (refine oM_gen (fun Kv hK => ?_)); simp [go_sem]; (first | exact hK _ _ ⟨rfl, rfl⟩ | exact ⟨by omega, hK _ _ ⟨rfl, rfl⟩⟩)) ?_)
    | (with_reducible first|refine gdtT ?_|refine gdtF ?_|refine gdfF ?_|refine gdfT ?_|refine gdu ?_ _|refine gdt_pos (by first|assumption|omega) ?_|refine gdt_neg (by first|assumption|omega) ?_|refine gdt_split (fun hg => ?_) (fun hg => ?_)|refine gdf_pos (by first|assumption|omega) ?_|refine gdf_neg (by first|assumption|omega) ?_|refine gdf_split (fun hg => ?_) (fun hg => ?_)|refine gdtn_pos (by first|assumption|omega) ?_|refine gdtn_neg (by first|assumption|omega) ?_|refine gdtn_split (fun hg => ?_) (fun hg => ?_)|refine gdfn_pos (by first|assumption|omega) ?_|refine gdfn_neg (by first|assumption|omega) ?_|refine gdfn_split (fun hg => ?_) (fun hg => ?_)|refine gdtbn_pos (by assumption) ?_|refine gdtbn_neg (by assumption) ?_|refine gdfbn_pos (by assumption) ?_|refine gdfbn_neg (by assumption) ?_|refine gdtb_pos (by assumption) ?_|refine gdtb_neg (by assumption) ?_|refine gdtb_split (fun hg => ?_) (fun hg => ?_)|refine gdfb_pos (by assumption) ?_|refine gdfb_neg (by assumption) ?_|refine gdfb_split (fun hg => ?_) (fun hg => ?_)|refine pickT ?_|refine pickF ?_|refine pick_pos (by first|assumption|omega) ?_|refine pick_neg (by first|assumption|omega) ?_|refine pickn_pos (by first|assumption|omega) ?_|refine pickn_neg (by first|assumption|omega) ?_|refine pickbn_pos (by assumption) ?_|refine pickbn_neg (by assumption) ?_|refine pickb_pos (by assumption) ?_|refine pickb_neg (by assumption) ?_|refine condT ?_|refine condF ?_|refine cond_pos (by first|assumption|omega) ?_|refine cond_neg (by first|assumption|omega) ?_|refine condM_dec (fun hg => ?_) (fun hg => ?_)|refine condn_pos (by first|assumption|omega) ?_|refine condn_neg (by first|assumption|omega) ?_|refine condM_ndec (fun hg => ?_) (fun hg => ?_)|refine condbn_pos (by assumption) ?_|refine condbn_neg (by assumption) ?_|refine condbn_split (fun hg => ?_) (fun hg => ?_)|refine condb_pos (by assumption) ?_|refine condb_neg (by assumption) ?_|refine condM_b (fun hg => ?_) (fun hg => ?_))
    | ((with_reducible refine oM_gen (fun Kv hK => ?_)); simp [go_sem]; (try simp (disch := omega) only [wrapI64, wrapU8, wrapU32, wrapU64]); (first | refine hK _ _ ?_ | refine And.intro (by omega) (hK _ _ ?_)); clear hK; clear Kv)))
    exact k v w1 ho1 (f1.mono (fun _ _ h => h.elim)) (fun i h => h)
  · rw [hi]
    have hlen : q.length = q1.length + 1 + q2.length := by rw [hsp]; simp; omega
    obtain ⟨g, cap, cur, rfl, hg, _, hcur, hcs, hnc, hcell⟩ := owns_cells ho1 (by omega)
    have ht1 : q.take q1.length = q1 := by rw [hsp]; simp
    have hk1 : keepQ f (q.take q1.length) = q1 := by
      rw [ht1]
      exact List.filter_eq_self.2 (fun p hp => by simpa using hpre p hp)
    have hqg : q[q1.length]? = some p := by rw [hsp]; simp
    have hk2 : keepQ f (q.take (q1.length + 1)) = q1 := by
      rw [keepQ_take f q q1.length (by omega), hk1, if_pos]
      rw [List.getElem?_eq_getElem (by omega)] at hqg
      rw [Option.some.inj hqg]; exact hpf
    have hcf : ∀ (k : Nat) (x : Value), (flat secC q)[k]? = some x → cur[k]? = some x := fun k x h => by
      have := hcell k x h
      rw [cell_of_block hcur] at this
      exact this
    have hxg : x ≠ g := fun e => by rw [e, hcur] at hx1; cases hx1
    repeat (any_goals (first
    | (with_reducible refine pureM_in ?_)
    | (with_reducible first|refine pureQ_in ?_|refine gdQ_conv (fun _ => ?_)|refine pickQT ?_|refine pickQF ?_|refine pickQ_pos (by first|assumption|omega) ?_|refine pickQ_neg (by first|assumption|omega) ?_|refine pickQn_pos (by first|assumption|omega) ?_|refine pickQn_neg (by first|assumption|omega) ?_) | ((with_reducible refine oQ_one ?_ ?_); exact ⟨_, rfl⟩) | (with_reducible first|refine And.intro (Eq.refl (α := World) _) ?_|refine forall_one ?_|refine oQ_nil ?_) | (with_reducible refine oQ_of ⟨_, rfl⟩ (fun W0 hW0 => by (refine oM_gen (fun Kv hK => ?_)); simp [go_sem]; (first | exact hK _ _ ⟨rfl, rfl⟩ | exact ⟨by omega, hK _ _ ⟨rfl, rfl⟩⟩)) ?_)
    | (with_reducible first|refine gdtT ?_|refine gdtF ?_|refine gdfF ?_|refine gdfT ?_|refine gdu ?_ _|refine gdt_pos (by first|assumption|omega) ?_|refine gdt_neg (by first|assumption|omega) ?_|refine gdt_split (fun hg => ?_) (fun hg => ?_)|refine gdf_pos (by first|assumption|omega) ?_|refine gdf_neg (by first|assumption|omega) ?_|refine gdf_split (fun hg => ?_) (fun hg => ?_)|refine gdtn_pos (by first|assumption|omega) ?_|refine gdtn_neg (by first|assumption|omega) ?_|refine gdtn_split (fun hg => ?_) (fun hg => ?_)|refine gdfn_pos (by first|assumption|omega) ?_|refine gdfn_neg (by first|assumption|omega) ?_|refine gdfn_split (fun hg => ?_) (fun hg => ?_)|refine gdtbn_pos (by assumption) ?_|refine gdtbn_neg (by assumption) ?_|refine gdfbn_pos (by assumption) ?_|refine gdfbn_neg (by assumption) ?_|refine gdtb_pos (by assumption) ?_|refine gdtb_neg (by assumption) ?_|refine gdtb_split (fun hg => ?_) (fun hg => ?_)|refine gdfb_pos (by assumption) ?_|refine gdfb_neg (by assumption) ?_|refine gdfb_split (fun hg => ?_) (fun hg => ?_)|refine pickT ?_|refine pickF ?_|refine pick_pos (by first|assumption|omega) ?_|refine pick_neg (by first|assumption|omega) ?_|refine pickn_pos (by first|assumption|omega) ?_|refine pickn_neg (by first|assumption|omega) ?_|refine pickbn_pos (by assumption) ?_|refine pickbn_neg (by assumption) ?_|refine pickb_pos (by assumption) ?_|refine pickb_neg (by assumption) ?_|refine condT ?_|refine condF ?_|refine cond_pos (by first|assumption|omega) ?_|refine cond_neg (by first|assumption|omega) ?_|refine condM_dec (fun hg => ?_) (fun hg => ?_)|refine condn_pos (by first|assumption|omega) ?_|refine condn_neg (by first|assumption|omega) ?_|refine condM_ndec (fun hg => ?_) (fun hg => ?_)|refine condbn_pos (by assumption) ?_|refine condbn_neg (by assumption) ?_|refine condbn_split (fun hg => ?_) (fun hg => ?_)|refine condb_pos (by assumption) ?_|refine condb_neg (by assumption) ?_|refine condM_b (fun hg => ?_) (fun hg => ?_))
    | ((with_reducible refine oM_gen (fun Kv hK => ?_)); simp [go_sem]; (try simp (disch := omega) only [wrapI64, wrapU8, wrapU32, wrapU64]); (first | refine hK _ _ ?_ | refine And.intro (by omega) (hK _ _ ?_)); clear hK; clear Kv)))
    have T1 : Taking w1 g cap f q (q1.length + 1) := ⟨cur, hcur, hcs, fun k x h => by
      rw [hk2] at h
      refine hcf k x ?_
      rw [hsp, flat_append]
      rw [List.getElem?_append_left (by have := (List.getElem?_eq_some_iff.1 h).1; exact this)]
      exact h, fun k x _ h => hcf k x h⟩
    refine ⟨fun l w' => ∃ j : Nat, l = [.int .i64 ((keepQ f (q.take j)).length : Int), .int .i64 (j : Int)] ∧ (keepQ f (q.take j)).length + 1 ≤ j ∧ j ≤ q.length ∧ Taking w' g cap f q j ∧ Fr (fun i => i = g) w w', fun l _ => match l with | [_, .int _ n] => ((q.length : Int) - n).toNat | _ => 0, ⟨q1.length + 1, by rw [hk2]; rfl, by rw [hk2]; omega, by omega, T1, f1.mono (fun _ _ h => h.elim)⟩, ?_⟩
    rintro l u w2 ⟨j, rfl, hij, hjn, T2, f2⟩
    simp only [List.getD_cons_zero, List.getD_cons_succ]
    repeat (any_goals (first
    | (with_reducible refine pureM_in ?_)
    | (with_reducible first|refine pureQ_in ?_|refine gdQ_conv (fun _ => ?_)|refine pickQT ?_|refine pickQF ?_|refine pickQ_pos (by first|assumption|omega) ?_|refine pickQ_neg (by first|assumption|omega) ?_|refine pickQn_pos (by first|assumption|omega) ?_|refine pickQn_neg (by first|assumption|omega) ?_) | ((with_reducible refine oQ_one ?_ ?_); exact ⟨_, rfl⟩) | (with_reducible first|refine And.intro (Eq.refl (α := World) _) ?_|refine forall_one ?_|refine oQ_nil ?_) | (with_reducible refine oQ_of ⟨_, rfl⟩ (fun W0 hW0 => by (refine oM_gen (fun Kv hK => ?_)); simp [go_sem]; (first | exact hK _ _ ⟨rfl, rfl⟩ | exact ⟨by omega, hK _ _ ⟨rfl, rfl⟩⟩)) ?_)
    | (with_reducible first|refine gdtT ?_|refine gdtF ?_|refine gdfF ?_|refine gdfT ?_|refine gdu ?_ _|refine gdt_pos (by first|assumption|omega) ?_|refine gdt_neg (by first|assumption|omega) ?_|refine gdt_split (fun hg => ?_) (fun hg => ?_)|refine gdf_pos (by first|assumption|omega) ?_|refine gdf_neg (by first|assumption|omega) ?_|refine gdf_split (fun hg => ?_) (fun hg => ?_)|refine gdtn_pos (by first|assumption|omega) ?_|refine gdtn_neg (by first|assumption|omega) ?_|refine gdtn_split (fun hg => ?_) (fun hg => ?_)|refine gdfn_pos (by first|assumption|omega) ?_|refine gdfn_neg (by first|assumption|omega) ?_|refine gdfn_split (fun hg => ?_) (fun hg => ?_)|refine gdtbn_pos (by assumption) ?_|refine gdtbn_neg (by assumption) ?_|refine gdfbn_pos (by assumption) ?_|refine gdfbn_neg (by assumption) ?_|refine gdtb_pos (by assumption) ?_|refine gdtb_neg (by assumption) ?_|refine gdtb_split (fun hg => ?_) (fun hg => ?_)|refine gdfb_pos (by assumption) ?_|refine gdfb_neg (by assumption) ?_|refine gdfb_split (fun hg => ?_) (fun hg => ?_)|refine pickT ?_|refine pickF ?_|refine pick_pos (by first|assumption|omega) ?_|refine pick_neg (by first|assumption|omega) ?_|refine pickn_pos (by first|assumption|omega) ?_|refine pickn_neg (by first|assumption|omega) ?_|refine pickbn_pos (by assumption) ?_|refine pickbn_neg (by assumption) ?_|refine pickb_pos (by assumption) ?_|refine pickb_neg (by assumption) ?_|refine condT ?_|refine condF ?_|refine cond_pos (by first|assumption|omega) ?_|refine cond_neg (by first|assumption|omega) ?_|refine condM_dec (fun hg => ?_) (fun hg => ?_)|refine condn_pos (by first|assumption|omega) ?_|refine condn_neg (by first|assumption|omega) ?_|refine condM_ndec (fun hg => ?_) (fun hg => ?_)|refine condbn_pos (by assumption) ?_|refine condbn_neg (by assumption) ?_|refine condbn_split (fun hg => ?_) (fun hg => ?_)|refine condb_pos (by assumption) ?_|refine condb_neg (by assumption) ?_|refine condM_b (fun hg => ?_) (fun hg => ?_))
    | ((with_reducible refine oM_gen (fun Kv hK => ?_)); simp [go_sem]; (try simp (disch := omega) only [wrapI64, wrapU8, wrapU32, wrapU64]); (first | refine hK _ _ ?_ | refine And.intro (by omega) (hK _ _ ?_)); clear hK; clear Kv)))
    · have hlt : j < q.length := by omega
      obtain ⟨cur2, hcur2, hcs2, hlo2, hhi2⟩ := T2
      have hx2 := (f2.block x (Array.getElem?_eq_some_iff.1 hx).1 (fun h => hxg h)).trans hx
      have e0 : w2.cell? ⟨g, j * 2, none⟩ = some (.int .i64 q[j].1) := by
        rw [cell_of_block hcur2]
        exact hhi2 _ _ (by omega) (by have := flat_at secC_len q j 0 (List.getElem?_eq_getElem hlt) (by omega); simpa [secC] using this)
      have e1 : w2.cell? ⟨g, j * 2 + 1, none⟩ = some (.int .i64 q[j].2) := by
        rw [cell_of_block hcur2]
        exact hhi2 _ _ (by omega) (by have := flat_at secC_len q j 1 (List.getElem?_eq_getElem hlt) (by omega); simpa [secC] using this)
      have hix := idxSec (c := cap) (g := g) hlt w2
      refine ⟨fun l w' => l = [.int .i64 ((keepQ f (q.take (j + 1))).length : Int)] ∧ (keepQ f (q.take (j + 1))).length + 1 ≤ j + 1 ∧ Taking w' g cap f q (j + 1) ∧ Fr (fun i => i = g) w w', ?_, ?_⟩
      · repeat (any_goals (first
        | (with_reducible refine pureM_in ?_)
        | (with_reducible first|refine pureQ_in ?_|refine gdQ_conv (fun _ => ?_)|refine pickQT ?_|refine pickQF ?_|refine pickQ_pos (by first|assumption|omega) ?_|refine pickQ_neg (by first|assumption|omega) ?_|refine pickQn_pos (by first|assumption|omega) ?_|refine pickQn_neg (by first|assumption|omega) ?_) | ((with_reducible refine oQ_one ?_ ?_); exact ⟨_, rfl⟩) | (with_reducible first|refine And.intro (Eq.refl (α := World) _) ?_|refine forall_one ?_|refine oQ_nil ?_) | (with_reducible refine oQ_of ⟨_, rfl⟩ (fun W0 hW0 => by (refine oM_gen (fun Kv hK => ?_)); simp [go_sem]; (first | exact hK _ _ ⟨rfl, rfl⟩ | exact ⟨by omega, hK _ _ ⟨rfl, rfl⟩⟩)) ?_)
        | (with_reducible first|refine gdtT ?_|refine gdtF ?_|refine gdfF ?_|refine gdfT ?_|refine gdu ?_ _|refine gdt_pos (by first|assumption|omega) ?_|refine gdt_neg (by first|assumption|omega) ?_|refine gdt_split (fun hg => ?_) (fun hg => ?_)|refine gdf_pos (by first|assumption|omega) ?_|refine gdf_neg (by first|assumption|omega) ?_|refine gdf_split (fun hg => ?_) (fun hg => ?_)|refine gdtn_pos (by first|assumption|omega) ?_|refine gdtn_neg (by first|assumption|omega) ?_|refine gdtn_split (fun hg => ?_) (fun hg => ?_)|refine gdfn_pos (by first|assumption|omega) ?_|refine gdfn_neg (by first|assumption|omega) ?_|refine gdfn_split (fun hg => ?_) (fun hg => ?_)|refine gdtbn_pos (by assumption) ?_|refine gdtbn_neg (by assumption) ?_|refine gdfbn_pos (by assumption) ?_|refine gdfbn_neg (by assumption) ?_|refine gdtb_pos (by assumption) ?_|refine gdtb_neg (by assumption) ?_|refine gdtb_split (fun hg => ?_) (fun hg => ?_)|refine gdfb_pos (by assumption) ?_|refine gdfb_neg (by assumption) ?_|refine gdfb_split (fun hg => ?_) (fun hg => ?_)|refine pickT ?_|refine pickF ?_|refine pick_pos (by first|assumption|omega) ?_|refine pick_neg (by first|assumption|omega) ?_|refine pickn_pos (by first|assumption|omega) ?_|refine pickn_neg (by first|assumption|omega) ?_|refine pickbn_pos (by assumption) ?_|refine pickbn_neg (by assumption) ?_|refine pickb_pos (by assumption) ?_|refine pickb_neg (by assumption) ?_|refine condT ?_|refine condF ?_|refine cond_pos (by first|assumption|omega) ?_|refine cond_neg (by first|assumption|omega) ?_|refine condM_dec (fun hg => ?_) (fun hg => ?_)|refine condn_pos (by first|assumption|omega) ?_|refine condn_neg (by first|assumption|omega) ?_|refine condM_ndec (fun hg => ?_) (fun hg => ?_)|refine condbn_pos (by assumption) ?_|refine condbn_neg (by assumption) ?_|refine condbn_split (fun hg => ?_) (fun hg => ?_)|refine condb_pos (by assumption) ?_|refine condb_neg (by assumption) ?_|refine condM_b (fun hg => ?_) (fun hg => ?_))
        | ((with_reducible refine oM_gen (fun Kv hK => ?_)); simp [go_sem, hix, e0, e1]; (try simp (disch := omega) only [wrapI64, wrapU8, wrapU32, wrapU64]); (first | refine hK _ _ ?_ | refine And.intro (by omega) (hK _ _ ?_)); clear hK; clear Kv)))
        have pf : Fr (fun _ => False) w2 (w2.alloc (.cells #[.int .i64 q[j].1, .int .i64 q[j].2] 69 (0, 0))) := (Fr.refl _ _).alloc _
        have p0 := heap_alloc_new w2 (.cells #[.int .i64 q[j].1, .int .i64 q[j].2] 69 (0, 0))
        have pz := alloc_size w2 (.cells #[.int .i64 q[j].1, .int .i64 q[j].2] 69 (0, 0))
        generalize w2.alloc (.cells #[.int .i64 q[j].1, .int .i64 q[j].2] 69 (0, 0)) = w3 at *
        have hx3 := (pf.block x (Array.getElem?_eq_some_iff.1 hx2).1 (fun h => h)).trans hx2
        refine oM_callv1 isBody56 (test1_ok (f := f) q[j] hx3 (fun w4 f4 => ?_))
        have hg2 := (Array.getElem?_eq_some_iff.1 hcur2).1
        have f24 := pf.trans f4 (fun _ h => h.elim)
        have hcur4 := (f24.block g hg2 (fun h => h)).trans hcur2
        have p4 := (f4.block w2.heap.size (by omega) (fun h => h)).trans p0
        have p40 := cell_of_block p4 0
        have p41 := cell_of_block p4 1
        simp at p40 p41
        have fr4 : Fr (fun i => i = g) w w4 := f2.trans f24 (fun _ h => h.elim)
        have hkt := keepQ_take f q j hlt
        have hix4 := idxSec (c := cap) (g := g) (n := q.length) (k := (keepQ f (q.take j)).length) (by omega) w4
        obtain ⟨i, hii⟩ : ∃ i, i = (keepQ f (q.take j)).length := ⟨_, rfl⟩
        rw [← hii] at hix4 hij ⊢
        have z0 := cell_of_block hcur4 (i * 2)
        have z1 := frozen_of_block hcur4 (i * 2)
        have z3 := frozen_of_block hcur4 (i * 2 + 1)
        have s0 : (cur2[i * 2]?).isSome = true := by simp; omega
        have s1 : (cur2[i * 2 + 1]?).isSome = true := by simp; omega
        have T4 : (∀ (k : Nat) (x : Value), 2 * (j + 1) ≤ k → (flat secC q)[k]? = some x → cur2[k]? = some x) := fun k x h1 h2 => hhi2 k x (by omega) h2
        repeat (any_goals (first
        | (with_reducible refine pureM_in ?_)
        | (with_reducible first|refine pureQ_in ?_|refine gdQ_conv (fun _ => ?_)|refine pickQT ?_|refine pickQF ?_|refine pickQ_pos (by first|assumption|omega) ?_|refine pickQ_neg (by first|assumption|omega) ?_|refine pickQn_pos (by first|assumption|omega) ?_|refine pickQn_neg (by first|assumption|omega) ?_) | ((with_reducible refine oQ_one ?_ ?_); exact ⟨_, rfl⟩) | (with_reducible first|refine And.intro (Eq.refl (α := World) _) ?_|refine forall_one ?_|refine oQ_nil ?_) | (with_reducible refine oQ_of ⟨_, rfl⟩ (fun W0 hW0 => by (refine oM_gen (fun Kv hK => ?_)); simp [go_sem]; (first | exact hK _ _ ⟨rfl, rfl⟩ | exact ⟨by omega, hK _ _ ⟨rfl, rfl⟩⟩)) ?_)
        | (with_reducible first|refine gdtT ?_|refine gdtF ?_|refine gdfF ?_|refine gdfT ?_|refine gdu ?_ _|refine gdt_pos (by first|assumption|omega) ?_|refine gdt_neg (by first|assumption|omega) ?_|refine gdt_split (fun hg => ?_) (fun hg => ?_)|refine gdf_pos (by first|assumption|omega) ?_|refine gdf_neg (by first|assumption|omega) ?_|refine gdf_split (fun hg => ?_) (fun hg => ?_)|refine gdtn_pos (by first|assumption|omega) ?_|refine gdtn_neg (by first|assumption|omega) ?_|refine gdtn_split (fun hg => ?_) (fun hg => ?_)|refine gdfn_pos (by first|assumption|omega) ?_|refine gdfn_neg (by first|assumption|omega) ?_|refine gdfn_split (fun hg => ?_) (fun hg => ?_)|refine gdtbn_pos (by assumption) ?_|refine gdtbn_neg (by assumption) ?_|refine gdfbn_pos (by assumption) ?_|refine gdfbn_neg (by assumption) ?_|refine gdtb_pos (by assumption) ?_|refine gdtb_neg (by assumption) ?_|refine gdtb_split (fun hg => ?_) (fun hg => ?_)|refine gdfb_pos (by assumption) ?_|refine gdfb_neg (by assumption) ?_|refine gdfb_split (fun hg => ?_) (fun hg => ?_)|refine pickT ?_|refine pickF ?_|refine pick_pos (by first|assumption|omega) ?_|refine pick_neg (by first|assumption|omega) ?_|refine pickn_pos (by first|assumption|omega) ?_|refine pickn_neg (by first|assumption|omega) ?_|refine pickbn_pos (by assumption) ?_|refine pickbn_neg (by assumption) ?_|refine pickb_pos (by assumption) ?_|refine pickb_neg (by assumption) ?_|refine condT ?_|refine condF ?_|refine cond_pos (by first|assumption|omega) ?_|refine cond_neg (by first|assumption|omega) ?_|refine condM_dec (fun hg => ?_) (fun hg => ?_)|refine condn_pos (by first|assumption|omega) ?_|refine condn_neg (by first|assumption|omega) ?_|refine condM_ndec (fun hg => ?_) (fun hg => ?_)|refine condbn_pos (by assumption) ?_|refine condbn_neg (by assumption) ?_|refine condbn_split (fun hg => ?_) (fun hg => ?_)|refine condb_pos (by assumption) ?_|refine condb_neg (by assumption) ?_|refine condM_b (fun hg => ?_) (fun hg => ?_))
        | ((with_reducible refine oM_gen (fun Kv hK => ?_)); simp [go_sem, p40, p41, hix4]; (try simp (disch := omega) only [wrapI64, wrapU8, wrapU32, wrapU64]); (first | refine hK _ _ ?_ | refine And.intro (by omega) (hK _ _ ?_)); clear hK; clear Kv)))
        · have hpf' : q[j].1 = f := by assumption
          rw [if_pos hpf'] at hkt
          refine ⟨by rw [hkt, hii], by rw [hkt]; omega, ⟨cur2, hcur4, hcs2, by rw [hkt]; exact hlo2, T4⟩, fr4⟩
        · have hpf' : ¬ q[j].1 = f := by assumption
          rw [if_neg hpf'] at hkt
          refine store2_at (fun w => by kernel_rfl) rfl rfl hcur4 (by omega) (fun w5 cur5 hg5 hcur5 hs5 hne5 ha5 hb5 => ?_)
          repeat (any_goals (first
          | (with_reducible refine pureM_in ?_)
          | (with_reducible first|refine pureQ_in ?_|refine gdQ_conv (fun _ => ?_)|refine pickQT ?_|refine pickQF ?_|refine pickQ_pos (by first|assumption|omega) ?_|refine pickQ_neg (by first|assumption|omega) ?_|refine pickQn_pos (by first|assumption|omega) ?_|refine pickQn_neg (by first|assumption|omega) ?_) | ((with_reducible refine oQ_one ?_ ?_); exact ⟨_, rfl⟩) | (with_reducible first|refine And.intro (Eq.refl (α := World) _) ?_|refine forall_one ?_|refine oQ_nil ?_) | (with_reducible refine oQ_of ⟨_, rfl⟩ (fun W0 hW0 => by (refine oM_gen (fun Kv hK => ?_)); simp [go_sem]; (first | exact hK _ _ ⟨rfl, rfl⟩ | exact ⟨by omega, hK _ _ ⟨rfl, rfl⟩⟩)) ?_)
          | (with_reducible first|refine gdtT ?_|refine gdtF ?_|refine gdfF ?_|refine gdfT ?_|refine gdu ?_ _|refine gdt_pos (by first|assumption|omega) ?_|refine gdt_neg (by first|assumption|omega) ?_|refine gdt_split (fun hg => ?_) (fun hg => ?_)|refine gdf_pos (by first|assumption|omega) ?_|refine gdf_neg (by first|assumption|omega) ?_|refine gdf_split (fun hg => ?_) (fun hg => ?_)|refine gdtn_pos (by first|assumption|omega) ?_|refine gdtn_neg (by first|assumption|omega) ?_|refine gdtn_split (fun hg => ?_) (fun hg => ?_)|refine gdfn_pos (by first|assumption|omega) ?_|refine gdfn_neg (by first|assumption|omega) ?_|refine gdfn_split (fun hg => ?_) (fun hg => ?_)|refine gdtbn_pos (by assumption) ?_|refine gdtbn_neg (by assumption) ?_|refine gdfbn_pos (by assumption) ?_|refine gdfbn_neg (by assumption) ?_|refine gdtb_pos (by assumption) ?_|refine gdtb_neg (by assumption) ?_|refine gdtb_split (fun hg => ?_) (fun hg => ?_)|refine gdfb_pos (by assumption) ?_|refine gdfb_neg (by assumption) ?_|refine gdfb_split (fun hg => ?_) (fun hg => ?_)|refine pickT ?_|refine pickF ?_|refine pick_pos (by first|assumption|omega) ?_|refine pick_neg (by first|assumption|omega) ?_|refine pickn_pos (by first|assumption|omega) ?_|refine pickn_neg (by first|assumption|omega) ?_|refine pickbn_pos (by assumption) ?_|refine pickbn_neg (by assumption) ?_|refine pickb_pos (by assumption) ?_|refine pickb_neg (by assumption) ?_|refine condT ?_|refine condF ?_|refine cond_pos (by first|assumption|omega) ?_|refine cond_neg (by first|assumption|omega) ?_|refine condM_dec (fun hg => ?_) (fun hg => ?_)|refine condn_pos (by first|assumption|omega) ?_|refine condn_neg (by first|assumption|omega) ?_|refine condM_ndec (fun hg => ?_) (fun hg => ?_)|refine condbn_pos (by assumption) ?_|refine condbn_neg (by assumption) ?_|refine condbn_split (fun hg => ?_) (fun hg => ?_)|refine condb_pos (by assumption) ?_|refine condb_neg (by assumption) ?_|refine condM_b (fun hg => ?_) (fun hg => ?_))
          | ((with_reducible refine oM_gen (fun Kv hK => ?_)); simp [go_sem]; (try simp (disch := omega) only [wrapI64, wrapU8, wrapU32, wrapU64]); (first | refine hK _ _ ?_ | refine And.intro (by omega) (hK _ _ ?_)); clear hK; clear Kv)))
          have hfl := flat_length secC_len (keepQ f (q.take j))
          refine ⟨by rw [hkt, List.length_append, ← hii]; rfl, by rw [hkt, List.length_append, ← hii]; simp; omega, ⟨cur5, hcur5, by rw [hs5, hcs2], ?_, ?_⟩, fr4.by hg5 (fun i hi => by cases hi; exact .inl rfl)⟩
          · intro k x hk
            rw [hkt, flat_snoc] at hk
            by_cases hki : k < i * 2
            · rw [List.getElem?_append_left (by rw [hfl, ← hii]; exact hki)] at hk
              rw [hne5 k (by omega) (by omega)]
              exact hlo2 k x hk
            · rw [List.getElem?_append_right (by rw [hfl, ← hii]; omega), hfl, ← hii] at hk
              have hk2 : k - i * 2 < 2 := by have := (List.getElem?_eq_some_iff.1 hk).1; exact this
              obtain ⟨m, rfl⟩ : ∃ m, k = i * 2 + m := ⟨k - i * 2, by omega⟩
              have e3 : i * 2 + m - i * 2 = m := by omega
              rw [e3] at hk hk2
              match m, hk2, hk with
              | 0, _, hk => rw [Nat.add_zero, ha5]; exact hk
              | 1, _, hk => rw [hb5]; exact hk
          · intro k x h1 h2
            rw [hne5 k (by omega) (by omega)]
            exact T4 k x h1 h2
      · rintro l u w3 ⟨rfl, hij3, T3, f3⟩
        simp only [List.getD_cons_zero]
        repeat (any_goals (first
        | (with_reducible refine pureM_in ?_)
        | (with_reducible first|refine pureQ_in ?_|refine gdQ_conv (fun _ => ?_)|refine pickQT ?_|refine pickQF ?_|refine pickQ_pos (by first|assumption|omega) ?_|refine pickQ_neg (by first|assumption|omega) ?_|refine pickQn_pos (by first|assumption|omega) ?_|refine pickQn_neg (by first|assumption|omega) ?_) | ((with_reducible refine oQ_one ?_ ?_); exact ⟨_, rfl⟩) | (with_reducible first|refine And.intro (Eq.refl (α := World) _) ?_|refine forall_one ?_|refine oQ_nil ?_) | (with_reducible refine oQ_of ⟨_, rfl⟩ (fun W0 hW0 => by (refine oM_gen (fun Kv hK => ?_)); simp [go_sem]; (first | exact hK _ _ ⟨rfl, rfl⟩ | exact ⟨by omega, hK _ _ ⟨rfl, rfl⟩⟩)) ?_)
        | (with_reducible first|refine gdtT ?_|refine gdtF ?_|refine gdfF ?_|refine gdfT ?_|refine gdu ?_ _|refine gdt_pos (by first|assumption|omega) ?_|refine gdt_neg (by first|assumption|omega) ?_|refine gdt_split (fun hg => ?_) (fun hg => ?_)|refine gdf_pos (by first|assumption|omega) ?_|refine gdf_neg (by first|assumption|omega) ?_|refine gdf_split (fun hg => ?_) (fun hg => ?_)|refine gdtn_pos (by first|assumption|omega) ?_|refine gdtn_neg (by first|assumption|omega) ?_|refine gdtn_split (fun hg => ?_) (fun hg => ?_)|refine gdfn_pos (by first|assumption|omega) ?_|refine gdfn_neg (by first|assumption|omega) ?_|refine gdfn_split (fun hg => ?_) (fun hg => ?_)|refine gdtbn_pos (by assumption) ?_|refine gdtbn_neg (by assumption) ?_|refine gdfbn_pos (by assumption) ?_|refine gdfbn_neg (by assumption) ?_|refine gdtb_pos (by assumption) ?_|refine gdtb_neg (by assumption) ?_|refine gdtb_split (fun hg => ?_) (fun hg => ?_)|refine gdfb_pos (by assumption) ?_|refine gdfb_neg (by assumption) ?_|refine gdfb_split (fun hg => ?_) (fun hg => ?_)|refine pickT ?_|refine pickF ?_|refine pick_pos (by first|assumption|omega) ?_|refine pick_neg (by first|assumption|omega) ?_|refine pickn_pos (by first|assumption|omega) ?_|refine pickn_neg (by first|assumption|omega) ?_|refine pickbn_pos (by assumption) ?_|refine pickbn_neg (by assumption) ?_|refine pickb_pos (by assumption) ?_|refine pickb_neg (by assumption) ?_|refine condT ?_|refine condF ?_|refine cond_pos (by first|assumption|omega) ?_|refine cond_neg (by first|assumption|omega) ?_|refine condM_dec (fun hg => ?_) (fun hg => ?_)|refine condn_pos (by first|assumption|omega) ?_|refine condn_neg (by first|assumption|omega) ?_|refine condM_ndec (fun hg => ?_) (fun hg => ?_)|refine condbn_pos (by assumption) ?_|refine condbn_neg (by assumption) ?_|refine condbn_split (fun hg => ?_) (fun hg => ?_)|refine condb_pos (by assumption) ?_|refine condb_neg (by assumption) ?_|refine condM_b (fun hg => ?_) (fun hg => ?_))
        | ((with_reducible refine oM_gen (fun Kv hK => ?_)); simp [go_sem]; (try simp (disch := omega) only [wrapI64, wrapU8, wrapU32, wrapU64]); (first | refine hK _ _ ?_ | refine And.intro (by omega) (hK _ _ ?_)); clear hK; clear Kv)))
        refine ⟨⟨j + 1, rfl, hij3, by omega, T3, f3⟩, ?_⟩
        show ((q.length : Int) - ((j : Int) + 1)).toNat < _
        omega
    · have hjq : j = q.length := by omega
      subst hjq
      obtain ⟨cur2, hcur2, hcs2, hlo2, hhi2⟩ := T2
      have htk : q.take q.length = q := List.take_of_length_le (Nat.le_refl _)
      rw [htk] at hij hlo2 ⊢
      obtain ⟨hz1, hz2⟩ := zero_sec (q.length - (keepQ f q).length)
      refine sliceFrom_at (sz := 2) (by kernel_rfl) (fun w => by kernel_rfl) _ (by omega) (by omega) ?_
      rw [Nat.zero_add]
      refine clear_at (by kernel_rfl) (z := .agg #[.int .i64 0, .int .i64 0]) (fun w => by kernel_rfl) (by omega) rfl hz2 hcur2 (by rw [hz1]; omega) (fun w3 cur3 hg3 hcur3 hs3 hlo3 => ?_)
      refine sliceTo_at (sz := 2) (by kernel_rfl) (fun w => by kernel_rfl) _ (by omega) ?_
      have f3 : Fr (fun i => i = g) w w3 := f2.by hg3 (fun i hi => by cases hi; exact .inl rfl)
      have hfl := flat_length secC_len (keepQ f q)
      refine k _ w3 ⟨hfl, .inr ⟨g, cap, cur3, rfl, Nat.zero_le _, hcur3, by omega, ?_, by rw [hs3, hcs2], ?_⟩⟩ (f3.mono (fun i _ hi => by rw [hi]; rfl)) (fun i hi => hi)
      · rcases ho.2 with ⟨h1, _⟩ | ⟨g', cap', cur', h1, _, _, _, hm, _⟩
        · cases h1
        · cases h1; exact hm
      · apply List.ext_getElem?
        intro i
        by_cases hi : i < (keepQ f q).length * 2
        · rw [List.getElem?_take_of_lt hi]
          have hx' : (flat secC (keepQ f q))[i]? = some ((flat secC (keepQ f q))[i]'(by rw [hfl]; exact hi)) := List.getElem?_eq_getElem _
          rw [hx', Array.getElem?_toList, hlo3 i hi]
          exact hlo2 i _ hx'
        · rw [List.getElem?_eq_none (by simp; omega), List.getElem?_eq_none (by rw [hfl]; omega)]
end
end Go.Proofs
