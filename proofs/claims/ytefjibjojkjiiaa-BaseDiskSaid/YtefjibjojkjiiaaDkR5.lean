/- DkR5: a part of the proof of the seat's statements: lemmas about the given translation and plain laws. No condition of its own. -/
--Q
import Derived.Test.YtefjibjojkjiiaaDkR4
set_option linter.all false
namespace Go.Proofs
open Go Go.Sh Go.RowKit DkSpec
set_option linter.unusedSimpArgs false
set_option linter.unusedVariables false
set_option maxRecDepth 10000
section
variable {w w' : World} {b : Nat} {A : Ab} {h : Rh} {K : Value → World → Prop}
/-- a new queue in place of the old one -/
theorem IsRf.setQ (d : IsRf w b A h) {q : List (Int × Int)} {v : Value} (ho : w.ownsRow 0 77 2 v q.length (flat secC q)) (hb : v.ownBlock ≠ some b) (hw : WF { A with queue := q }) : IsRf (w.setCell ⟨b, 1, none⟩ v) b { A with queue := q } { h with qv := v } := by
  have hne : ∀ i, i ≠ b → (w.setCell ⟨b, 1, none⟩ v).heap[i]? = w.heap[i]? := fun i hi => setCell_heap_ne _ _ _ _ hi
  obtain ⟨l, h1, h2⟩ := d.files
  refine ⟨by rw [block_set d.blk]; rfl, ⟨l, h1, owns_keep h2 (fun i hi => hne i (d.fne (.inl hi)).1)⟩, owns_keep ho (fun i hi => hne i (fun e => hb (e ▸ hi))), owns_keep d.kep (fun i hi => hne i (d.fne (.inr hi)).1), hw⟩
def addCut (a0 a1 a2 a3 : Value) (K : Value → World → Prop) (w : World) : Prop :=
 oM Try.prog (Go.Op.binOp Go.BinOp.quo 3 (.tmp 0) (.tmp 1) 3) 3 [a2, (.int .i64 64)] (fun v25_10 w =>
 loopM [v25_10] w (fun J_11 m_12 l_13 u_l_13 w0_l_13 => (fun w => (
 oM Try.prog (Go.Op.call (Go.Call.mk (Go.Callee.builtin Go.Builtin.len) #[(.tmp 0)] #[9])) 3 [a3] (fun v29_14 w =>
 oM Try.prog (Go.Op.binOp Go.BinOp.add 3 (.tmp 0) (.tmp 1) 3) 3 [a2, v29_14] (fun v30_15 w =>
 oM Try.prog (Go.Op.binOp Go.BinOp.sub 3 (.tmp 0) (.tmp 1) 3) 3 [v30_15, (.int .i64 1)] (fun v31_16 w =>
 oM Try.prog (Go.Op.binOp Go.BinOp.quo 3 (.tmp 0) (.tmp 1) 3) 3 [v31_16, (.int .i64 64)] (fun v32_17 w =>
 oM Try.prog (Go.Op.binOp Go.BinOp.leq 3 (.tmp 0) (.tmp 1) 3) 4 [(l_13.getD 0 undef), v32_17] (fun v33_18 w =>
 condM v33_18
 (joinM (fun M_19 => (callM Try.prog 61 #[a0, a1, (l_13.getD 0 undef)] (fun v39_21 w =>
 oM Try.prog (Go.Op.unOp Go.UnOp.not 4 (.tmp 0)) 4 [v39_21] (fun v40_22 w =>
 condM v40_22
 (oM Try.prog (Go.Op.nilCheck (.tmp 0)) 0 [a0] (fun v43_23 w =>
 oM Try.prog (Go.Op.fieldAddr 58 (.tmp 0) 1) 0 [v43_23] (fun v44_24 w =>
 oM Try.prog (Go.Op.load 56 (.tmp 0)) 56 [v44_24] (fun v45_25 w =>
 oM Try.prog (Go.Op.build 77 #[(0, (.tmp 0)), (1, (.tmp 1))]) 77 [a1, (l_13.getD 0 undef)] (fun v48_26 w =>
 oM Try.prog (Go.Op.buildSlice 56 1 #[(0, (.tmp 0))]) 56 [v48_26] (fun v49_27 w =>
 oM Try.prog (Go.Op.call (Go.Call.mk (Go.Callee.builtin Go.Builtin.append) #[(.tmp 0), (.tmp 1)] #[56, 56])) 56 [v45_25, v49_27] (fun v50_28 w =>
 oM Try.prog (Go.Op.nilCheck (.tmp 0)) 0 [a0] (fun v51_29 w =>
 oM Try.prog (Go.Op.fieldAddr 58 (.tmp 0) 1) 0 [v51_29] (fun v52_30 w =>
 oM Try.prog (Go.Op.store 56 (.tmp 0) (.tmp 1)) 0 [v52_30, v50_28] (fun _ w =>
 M_19 [] w) w) w) w) w) w) w) w) w) w)
 (M_19 [] w)) w) w))
 (fun l_20 u_l_20 w => (oM Try.prog (Go.Op.binOp Go.BinOp.add 3 (.tmp 0) (.tmp 1) 3) 3 [(l_13.getD 0 undef), (.int .i64 1)] (fun v35_31 w =>
 J_11 [v35_31] w ∧ m_12 [v35_31] w < m_12 l_13 w0_l_13) w)))
 (K (.tuple #[]) w)) w) w) w) w) w)) w0_l_13)) w
set_option maxHeartbeats 1000000 in
theorem addCut_ok (d : IsRf w b A h) (f : Int) (hf : 0 ≤ f ∧ f < 16) (a : Nat) (s : Bs) (hs : s ≠ []) (hfit : a + s.length ≤ 16777216) (k : ∀ w' h', IsRf w' b { A with queue := pushQ f A.queue (secs a s.length) } h' → StepR w b h w' h' → K (.tuple #[]) w') : addCut (dkP b) (.int .i64 f) (.int .i64 (a : Int)) (bsV s) K w := by
  unfold addCut
  have hlen : 0 < s.length := List.length_pos_iff.2 hs
  obtain ⟨m, hm'⟩ : ∃ m, m = (a + s.length - 1) / 64 := ⟨_, rfl⟩
  have hd1 : ((a : Int) + (s.length : Int) - 1).tdiv 64 = (m : Int) := by
    rw [tdivN _ _ (by omega)]; omega
  have hd2 : ((a : Int) + (s.length : Int) - 1) / 64 = (m : Int) := by omega
  have hmb : m < 262144 := by omega
  repeat (any_goals (first
  | (with_reducible refine pureM_in ?_)
  | (with_reducible first|refine pureQ_in ?_|refine gdQ_conv (fun _ => ?_)|refine pickQT ?_|refine pickQF ?_|refine pickQ_pos (by first|assumption|omega) ?_|refine pickQ_neg (by first|assumption|omega) ?_|refine pickQn_pos (by first|assumption|omega) ?_|refine pickQn_neg (by first|assumption|omega) ?_) | ((with_reducible refine oQ_one ?_ ?_); exact ⟨_, rfl⟩) | (with_reducible first|refine And.intro (Eq.refl (α := World) _) ?_|refine forall_one ?_|refine oQ_nil ?_) | (with_reducible refine oQ_of ⟨_, rfl⟩ (fun W0 hW0 => by (refine oM_gen (fun Kv hK => ?_)); simp [go_sem]; (first | exact hK _ _ ⟨rfl, rfl⟩ | exact ⟨by omega, hK _ _ ⟨rfl, rfl⟩⟩)) ?_)
  | (with_reducible first|refine gdtT ?_|refine gdtF ?_|refine gdfF ?_|refine gdfT ?_|refine gdu ?_ _|refine gdt_pos (by first|assumption|omega) ?_|refine gdt_neg (by first|assumption|omega) ?_|refine gdt_split (fun hg => ?_) (fun hg => ?_)|refine gdf_pos (by first|assumption|omega) ?_|refine gdf_neg (by first|assumption|omega) ?_|refine gdf_split (fun hg => ?_) (fun hg => ?_)|refine gdtn_pos (by first|assumption|omega) ?_|refine gdtn_neg (by first|assumption|omega) ?_|refine gdtn_split (fun hg => ?_) (fun hg => ?_)|refine gdfn_pos (by first|assumption|omega) ?_|refine gdfn_neg (by first|assumption|omega) ?_|refine gdfn_split (fun hg => ?_) (fun hg => ?_)|refine gdtbn_pos (by assumption) ?_|refine gdtbn_neg (by assumption) ?_|refine gdfbn_pos (by assumption) ?_|refine gdfbn_neg (by assumption) ?_|refine gdtb_pos (by assumption) ?_|refine gdtb_neg (by assumption) ?_|refine gdtb_split (fun hg => ?_) (fun hg => ?_)|refine gdfb_pos (by assumption) ?_|refine gdfb_neg (by assumption) ?_|refine gdfb_split (fun hg => ?_) (fun hg => ?_)|refine pickT ?_|refine pickF ?_|refine pick_pos (by first|assumption|omega) ?_|refine pick_neg (by first|assumption|omega) ?_|refine pickn_pos (by first|assumption|omega) ?_|refine pickn_neg (by first|assumption|omega) ?_|refine pickbn_pos (by assumption) ?_|refine pickbn_neg (by assumption) ?_|refine pickb_pos (by assumption) ?_|refine pickb_neg (by assumption) ?_|refine condT ?_|refine condF ?_|refine cond_pos (by first|assumption|omega) ?_|refine cond_neg (by first|assumption|omega) ?_|refine condM_dec (fun hg => ?_) (fun hg => ?_)|refine condn_pos (by first|assumption|omega) ?_|refine condn_neg (by first|assumption|omega) ?_|refine condM_ndec (fun hg => ?_) (fun hg => ?_)|refine condbn_pos (by assumption) ?_|refine condbn_neg (by assumption) ?_|refine condbn_split (fun hg => ?_) (fun hg => ?_)|refine condb_pos (by assumption) ?_|refine condb_neg (by assumption) ?_|refine condM_b (fun hg => ?_) (fun hg => ?_))
  | ((with_reducible refine oM_gen (fun Kv hK => ?_)); simp [go_sem]; (try simp (disch := omega) only [wrapI64, wrapU8, wrapU32, wrapU64]); (first | refine hK _ _ ?_ | refine And.intro (by omega) (hK _ _ ?_)); clear hK; clear Kv)))
  refine ⟨fun l w' => ∃ (n : Nat) (q : List (Int × Int)) (h1 : Rh), l = [.int .i64 (n : Int)] ∧ n ≤ m + 1 ∧ IsRf w' b { A with queue := q } h1 ∧ StepR w b h w' h1 ∧ pushQ f q (secsFrom n m) = pushQ f A.queue (secs a s.length), fun l _ => match l with | [.int _ n] => ((m : Int) + 1 - n).toNat | _ => 0, ⟨a / 64, A.queue, h, by simp, by omega, d, StepR.refl _ _ _, by rw [hm']; rfl⟩, ?_⟩
  rintro l u w5 ⟨n, q, h5, rfl, hnm, d5, t5, hp⟩
  simp only [List.getD_cons_zero]
  repeat (any_goals (first
  | (with_reducible refine pureM_in ?_)
  | (with_reducible first|refine pureQ_in ?_|refine gdQ_conv (fun _ => ?_)|refine pickQT ?_|refine pickQF ?_|refine pickQ_pos (by first|assumption|omega) ?_|refine pickQ_neg (by first|assumption|omega) ?_|refine pickQn_pos (by first|assumption|omega) ?_|refine pickQn_neg (by first|assumption|omega) ?_) | ((with_reducible refine oQ_one ?_ ?_); exact ⟨_, rfl⟩) | (with_reducible first|refine And.intro (Eq.refl (α := World) _) ?_|refine forall_one ?_|refine oQ_nil ?_) | (with_reducible refine oQ_of ⟨_, rfl⟩ (fun W0 hW0 => by (refine oM_gen (fun Kv hK => ?_)); simp [go_sem]; (first | exact hK _ _ ⟨rfl, rfl⟩ | exact ⟨by omega, hK _ _ ⟨rfl, rfl⟩⟩)) ?_)
  | (with_reducible first|refine gdtT ?_|refine gdtF ?_|refine gdfF ?_|refine gdfT ?_|refine gdu ?_ _|refine gdt_pos (by first|assumption|omega) ?_|refine gdt_neg (by first|assumption|omega) ?_|refine gdt_split (fun hg => ?_) (fun hg => ?_)|refine gdf_pos (by first|assumption|omega) ?_|refine gdf_neg (by first|assumption|omega) ?_|refine gdf_split (fun hg => ?_) (fun hg => ?_)|refine gdtn_pos (by first|assumption|omega) ?_|refine gdtn_neg (by first|assumption|omega) ?_|refine gdtn_split (fun hg => ?_) (fun hg => ?_)|refine gdfn_pos (by first|assumption|omega) ?_|refine gdfn_neg (by first|assumption|omega) ?_|refine gdfn_split (fun hg => ?_) (fun hg => ?_)|refine gdtbn_pos (by assumption) ?_|refine gdtbn_neg (by assumption) ?_|refine gdfbn_pos (by assumption) ?_|refine gdfbn_neg (by assumption) ?_|refine gdtb_pos (by assumption) ?_|refine gdtb_neg (by assumption) ?_|refine gdtb_split (fun hg => ?_) (fun hg => ?_)|refine gdfb_pos (by assumption) ?_|refine gdfb_neg (by assumption) ?_|refine gdfb_split (fun hg => ?_) (fun hg => ?_)|refine pickT ?_|refine pickF ?_|refine pick_pos (by first|assumption|omega) ?_|refine pick_neg (by first|assumption|omega) ?_|refine pickn_pos (by first|assumption|omega) ?_|refine pickn_neg (by first|assumption|omega) ?_|refine pickbn_pos (by assumption) ?_|refine pickbn_neg (by assumption) ?_|refine pickb_pos (by assumption) ?_|refine pickb_neg (by assumption) ?_|refine condT ?_|refine condF ?_|refine cond_pos (by first|assumption|omega) ?_|refine cond_neg (by first|assumption|omega) ?_|refine condM_dec (fun hg => ?_) (fun hg => ?_)|refine condn_pos (by first|assumption|omega) ?_|refine condn_neg (by first|assumption|omega) ?_|refine condM_ndec (fun hg => ?_) (fun hg => ?_)|refine condbn_pos (by assumption) ?_|refine condbn_neg (by assumption) ?_|refine condbn_split (fun hg => ?_) (fun hg => ?_)|refine condb_pos (by assumption) ?_|refine condb_neg (by assumption) ?_|refine condM_b (fun hg => ?_) (fun hg => ?_))
  | ((with_reducible refine oM_gen (fun Kv hK => ?_)); simp [go_sem, hd1, hd2]; (try simp (disch := omega) only [wrapI64, wrapU8, wrapU32, wrapU64]); (first | refine hK _ _ ?_ | refine And.intro (by omega) (hK _ _ ?_)); clear hK; clear Kv)))
  · rw [secsFrom_le hg] at hp
    have hp : pushQ f (if (f, (n : Int)) ∈ q then q else q ++ [(f, (n : Int))]) (secsFrom (n + 1) m) = _ := hp
    refine ⟨fun _ w' => ∃ (q' : List (Int × Int)) (h' : Rh), IsRf w' b { A with queue := q' } h' ∧ StepR w b h w' h' ∧ pushQ f q' (secsFrom (n + 1) m) = pushQ f A.queue (secs a s.length), ?_, ?_⟩
    · refine pending_ok d5 f n ?_
      by_cases hin : (f, (n : Int)) ∈ q
      · have hin' : (f, (n : Int)) ∈ ({ A with queue := q } : Ab).queue := hin
        rw [decide_eq_true hin']
        rw [if_pos hin] at hp
        repeat (any_goals (first
        | (with_reducible refine pureM_in ?_)
        | (with_reducible first|refine pureQ_in ?_|refine gdQ_conv (fun _ => ?_)|refine pickQT ?_|refine pickQF ?_|refine pickQ_pos (by first|assumption|omega) ?_|refine pickQ_neg (by first|assumption|omega) ?_|refine pickQn_pos (by first|assumption|omega) ?_|refine pickQn_neg (by first|assumption|omega) ?_) | ((with_reducible refine oQ_one ?_ ?_); exact ⟨_, rfl⟩) | (with_reducible first|refine And.intro (Eq.refl (α := World) _) ?_|refine forall_one ?_|refine oQ_nil ?_) | (with_reducible refine oQ_of ⟨_, rfl⟩ (fun W0 hW0 => by (refine oM_gen (fun Kv hK => ?_)); simp [go_sem]; (first | exact hK _ _ ⟨rfl, rfl⟩ | exact ⟨by omega, hK _ _ ⟨rfl, rfl⟩⟩)) ?_)
        | (with_reducible first|refine gdtT ?_|refine gdtF ?_|refine gdfF ?_|refine gdfT ?_|refine gdu ?_ _|refine gdt_pos (by first|assumption|omega) ?_|refine gdt_neg (by first|assumption|omega) ?_|refine gdt_split (fun hg => ?_) (fun hg => ?_)|refine gdf_pos (by first|assumption|omega) ?_|refine gdf_neg (by first|assumption|omega) ?_|refine gdf_split (fun hg => ?_) (fun hg => ?_)|refine gdtn_pos (by first|assumption|omega) ?_|refine gdtn_neg (by first|assumption|omega) ?_|refine gdtn_split (fun hg => ?_) (fun hg => ?_)|refine gdfn_pos (by first|assumption|omega) ?_|refine gdfn_neg (by first|assumption|omega) ?_|refine gdfn_split (fun hg => ?_) (fun hg => ?_)|refine gdtbn_pos (by assumption) ?_|refine gdtbn_neg (by assumption) ?_|refine gdfbn_pos (by assumption) ?_|refine gdfbn_neg (by assumption) ?_|refine gdtb_pos (by assumption) ?_|refine gdtb_neg (by assumption) ?_|refine gdtb_split (fun hg => ?_) (fun hg => ?_)|refine gdfb_pos (by assumption) ?_|refine gdfb_neg (by assumption) ?_|refine gdfb_split (fun hg => ?_) (fun hg => ?_)|refine pickT ?_|refine pickF ?_|refine pick_pos (by first|assumption|omega) ?_|refine pick_neg (by first|assumption|omega) ?_|refine pickn_pos (by first|assumption|omega) ?_|refine pickn_neg (by first|assumption|omega) ?_|refine pickbn_pos (by assumption) ?_|refine pickbn_neg (by assumption) ?_|refine pickb_pos (by assumption) ?_|refine pickb_neg (by assumption) ?_|refine condT ?_|refine condF ?_|refine cond_pos (by first|assumption|omega) ?_|refine cond_neg (by first|assumption|omega) ?_|refine condM_dec (fun hg => ?_) (fun hg => ?_)|refine condn_pos (by first|assumption|omega) ?_|refine condn_neg (by first|assumption|omega) ?_|refine condM_ndec (fun hg => ?_) (fun hg => ?_)|refine condbn_pos (by assumption) ?_|refine condbn_neg (by assumption) ?_|refine condbn_split (fun hg => ?_) (fun hg => ?_)|refine condb_pos (by assumption) ?_|refine condb_neg (by assumption) ?_|refine condM_b (fun hg => ?_) (fun hg => ?_))
        | ((with_reducible refine oM_gen (fun Kv hK => ?_)); simp [go_sem]; (try simp (disch := omega) only [wrapI64, wrapU8, wrapU32, wrapU64]); (first | refine hK _ _ ?_ | refine And.intro (by omega) (hK _ _ ?_)); clear hK; clear Kv)))
        exact ⟨q, h5, d5, t5, hp⟩
      · have hin' : ¬ (f, (n : Int)) ∈ ({ A with queue := q } : Ab).queue := hin
        rw [decide_eq_false hin']
        rw [if_neg hin] at hp
        have c1 := d5.c 1
        simp only [rfCells] at c1
        repeat (any_goals (first
        | (with_reducible refine pureM_in ?_)
        | (with_reducible first|refine pureQ_in ?_|refine gdQ_conv (fun _ => ?_)|refine pickQT ?_|refine pickQF ?_|refine pickQ_pos (by first|assumption|omega) ?_|refine pickQ_neg (by first|assumption|omega) ?_|refine pickQn_pos (by first|assumption|omega) ?_|refine pickQn_neg (by first|assumption|omega) ?_) | ((with_reducible refine oQ_one ?_ ?_); exact ⟨_, rfl⟩) | (with_reducible first|refine And.intro (Eq.refl (α := World) _) ?_|refine forall_one ?_|refine oQ_nil ?_) | (with_reducible refine oQ_of ⟨_, rfl⟩ (fun W0 hW0 => by (refine oM_gen (fun Kv hK => ?_)); simp [go_sem]; (first | exact hK _ _ ⟨rfl, rfl⟩ | exact ⟨by omega, hK _ _ ⟨rfl, rfl⟩⟩)) ?_)
        | (with_reducible first|refine gdtT ?_|refine gdtF ?_|refine gdfF ?_|refine gdfT ?_|refine gdu ?_ _|refine gdt_pos (by first|assumption|omega) ?_|refine gdt_neg (by first|assumption|omega) ?_|refine gdt_split (fun hg => ?_) (fun hg => ?_)|refine gdf_pos (by first|assumption|omega) ?_|refine gdf_neg (by first|assumption|omega) ?_|refine gdf_split (fun hg => ?_) (fun hg => ?_)|refine gdtn_pos (by first|assumption|omega) ?_|refine gdtn_neg (by first|assumption|omega) ?_|refine gdtn_split (fun hg => ?_) (fun hg => ?_)|refine gdfn_pos (by first|assumption|omega) ?_|refine gdfn_neg (by first|assumption|omega) ?_|refine gdfn_split (fun hg => ?_) (fun hg => ?_)|refine gdtbn_pos (by assumption) ?_|refine gdtbn_neg (by assumption) ?_|refine gdfbn_pos (by assumption) ?_|refine gdfbn_neg (by assumption) ?_|refine gdtb_pos (by assumption) ?_|refine gdtb_neg (by assumption) ?_|refine gdtb_split (fun hg => ?_) (fun hg => ?_)|refine gdfb_pos (by assumption) ?_|refine gdfb_neg (by assumption) ?_|refine gdfb_split (fun hg => ?_) (fun hg => ?_)|refine pickT ?_|refine pickF ?_|refine pick_pos (by first|assumption|omega) ?_|refine pick_neg (by first|assumption|omega) ?_|refine pickn_pos (by first|assumption|omega) ?_|refine pickn_neg (by first|assumption|omega) ?_|refine pickbn_pos (by assumption) ?_|refine pickbn_neg (by assumption) ?_|refine pickb_pos (by assumption) ?_|refine pickb_neg (by assumption) ?_|refine condT ?_|refine condF ?_|refine cond_pos (by first|assumption|omega) ?_|refine cond_neg (by first|assumption|omega) ?_|refine condM_dec (fun hg => ?_) (fun hg => ?_)|refine condn_pos (by first|assumption|omega) ?_|refine condn_neg (by first|assumption|omega) ?_|refine condM_ndec (fun hg => ?_) (fun hg => ?_)|refine condbn_pos (by assumption) ?_|refine condbn_neg (by assumption) ?_|refine condbn_split (fun hg => ?_) (fun hg => ?_)|refine condb_pos (by assumption) ?_|refine condb_neg (by assumption) ?_|refine condM_b (fun hg => ?_) (fun hg => ?_))
        | ((with_reducible refine oM_gen (fun Kv hK => ?_)); simp [go_sem, c1]; (try simp (disch := omega) only [wrapI64, wrapU8, wrapU32, wrapU64]); (first | refine hK _ _ ?_ | refine And.intro (by omega) (hK _ _ ?_)); clear hK; clear Kv)))
        have g6 : Fr (fun _ => False) w5 (w5.alloc (.cells #[.int .i64 f, .int .i64 (n : Int)] 77 (0, 0))) := (Fr.refl _ _).alloc _
        have n6 := heap_alloc_new w5 (.cells #[.int .i64 f, .int .i64 (n : Int)] 77 (0, 0))
        generalize w5.alloc (.cells #[.int .i64 f, .int .i64 (n : Int)] 77 (0, 0)) = w6 at *
        have d6 := d5.fresh g6
        have hql : q.length ≤ 4194304 := d6.wf.ql
        refine append_at 56 56 77 ((Try.prog.info? 77).getD default) (.agg #[.int .i64 0, .int .i64 0]) 2 16 (by kernel_rfl) (by kernel_rfl) (by kernel_rfl) (by kernel_rfl) (by kernel_rfl) (by kernel_rfl) (by omega) d6.que (secC (f, (n : Int))) rfl ?_ ?_ (secC_one _) (by simp only [maxLen]; show q.length + 1 ≤ _; omega) (by show (q.length + 1) * 16 ≤ _; omega) ?_
        · intro h; cases h
        · rintro ad hu j x hj
          cases hu
          rw [add_none, Nat.zero_add, cell_of_block n6]
          match j, hj with
          | 0, hj => exact hj
          | 1, hj => exact hj
        intro v' w7 ho7 g7 hv7
        have hb5 : b < w5.heap.size := d5.lt (.inl (.inl rfl))
        have hz6 := g6.size
        have d7 : w7.heap[b]? = some (.cells (rfCells { A with queue := q } h5) 58 (0, 0)) := (g7.block b (by omega) (fun e => (d6.qne e.symm).1 rfl)).trans d6.blk
        have e1 := cell_of_block d7 1
        have y1 := frozen_of_block d7 1
        simp [rfCells] at e1
        obtain ⟨va, vc, rfl⟩ := owns_len ho7
        repeat (any_goals (first
        | (with_reducible refine pureM_in ?_)
        | (with_reducible first|refine pureQ_in ?_|refine gdQ_conv (fun _ => ?_)|refine pickQT ?_|refine pickQF ?_|refine pickQ_pos (by first|assumption|omega) ?_|refine pickQ_neg (by first|assumption|omega) ?_|refine pickQn_pos (by first|assumption|omega) ?_|refine pickQn_neg (by first|assumption|omega) ?_) | ((with_reducible refine oQ_one ?_ ?_); exact ⟨_, rfl⟩) | (with_reducible first|refine And.intro (Eq.refl (α := World) _) ?_|refine forall_one ?_|refine oQ_nil ?_) | (with_reducible refine oQ_of ⟨_, rfl⟩ (fun W0 hW0 => by (refine oM_gen (fun Kv hK => ?_)); simp [go_sem]; (first | exact hK _ _ ⟨rfl, rfl⟩ | exact ⟨by omega, hK _ _ ⟨rfl, rfl⟩⟩)) ?_)
        | (with_reducible first|refine gdtT ?_|refine gdtF ?_|refine gdfF ?_|refine gdfT ?_|refine gdu ?_ _|refine gdt_pos (by first|assumption|omega) ?_|refine gdt_neg (by first|assumption|omega) ?_|refine gdt_split (fun hg => ?_) (fun hg => ?_)|refine gdf_pos (by first|assumption|omega) ?_|refine gdf_neg (by first|assumption|omega) ?_|refine gdf_split (fun hg => ?_) (fun hg => ?_)|refine gdtn_pos (by first|assumption|omega) ?_|refine gdtn_neg (by first|assumption|omega) ?_|refine gdtn_split (fun hg => ?_) (fun hg => ?_)|refine gdfn_pos (by first|assumption|omega) ?_|refine gdfn_neg (by first|assumption|omega) ?_|refine gdfn_split (fun hg => ?_) (fun hg => ?_)|refine gdtbn_pos (by assumption) ?_|refine gdtbn_neg (by assumption) ?_|refine gdfbn_pos (by assumption) ?_|refine gdfbn_neg (by assumption) ?_|refine gdtb_pos (by assumption) ?_|refine gdtb_neg (by assumption) ?_|refine gdtb_split (fun hg => ?_) (fun hg => ?_)|refine gdfb_pos (by assumption) ?_|refine gdfb_neg (by assumption) ?_|refine gdfb_split (fun hg => ?_) (fun hg => ?_)|refine pickT ?_|refine pickF ?_|refine pick_pos (by first|assumption|omega) ?_|refine pick_neg (by first|assumption|omega) ?_|refine pickn_pos (by first|assumption|omega) ?_|refine pickn_neg (by first|assumption|omega) ?_|refine pickbn_pos (by assumption) ?_|refine pickbn_neg (by assumption) ?_|refine pickb_pos (by assumption) ?_|refine pickb_neg (by assumption) ?_|refine condT ?_|refine condF ?_|refine cond_pos (by first|assumption|omega) ?_|refine cond_neg (by first|assumption|omega) ?_|refine condM_dec (fun hg => ?_) (fun hg => ?_)|refine condn_pos (by first|assumption|omega) ?_|refine condn_neg (by first|assumption|omega) ?_|refine condM_ndec (fun hg => ?_) (fun hg => ?_)|refine condbn_pos (by assumption) ?_|refine condbn_neg (by assumption) ?_|refine condbn_split (fun hg => ?_) (fun hg => ?_)|refine condb_pos (by assumption) ?_|refine condb_neg (by assumption) ?_|refine condM_b (fun hg => ?_) (fun hg => ?_))
        | ((with_reducible refine oM_gen (fun Kv hK => ?_)); simp [go_sem, e1, y1]; (try simp (disch := omega) only [wrapI64, wrapU8, wrapU32, wrapU64]); (first | refine hK _ _ ?_ | refine And.intro (by omega) (hK _ _ ?_)); clear hK; clear Kv)))
        have hvb : (Value.slice va (q.length + 1) vc).ownBlock ≠ some b := fun e => (hv7 b e).elim (fun e => (d6.qne e).1 rfl) (fun e => by omega)
        have hne : ∀ i, i ≠ b → (w7.setCell ⟨b, 1, none⟩ (.slice va (q.length + 1) vc)).heap[i]? = w7.heap[i]? := fun i hi => setCell_heap_ne _ _ _ _ hi
        obtain ⟨l6, hF6, ho6⟩ := d6.files
        have k7 : ∀ i, i < w6.heap.size → h5.qv.ownBlock ≠ some i → w7.heap[i]? = w6.heap[i]? := fun i hi hn => g7.block i hi (fun e => hn e.symm)
        have hwf : WF { A with queue := q ++ [(f, (n : Int))] } := push_wf (A := { A with queue := q }) d6.wf hf (by omega) hin
        refine ⟨q ++ [(f, (n : Int))], { h5 with qv := .slice va (q.length + 1) vc }, ⟨?_, ⟨l6, hF6, ?_⟩, ?_, ?_, hwf⟩, t5.trans ⟨?_, ?_, fun i hi => .inl hi⟩, hp⟩
        · rw [block_set d7]; rfl
        · refine owns_keep ho6 (fun i hi => ?_)
          have := d6.fne (.inl hi)
          rw [hne i this.1, k7 i (owns_own ho6 hi).1 this.2]
        · show World.ownsRow _ 0 _ 2 _ (q ++ [(f, (n : Int))]).length (flat secC (q ++ [(f, (n : Int))]))
          rw [flat_snoc, List.length_append]
          exact owns_keep ho7 (fun i hi => hne i (fun e => hvb (e ▸ hi)))
        · refine owns_keep d6.kep (fun i hi => ?_)
          have := d6.fne (.inr hi)
          rw [hne i this.1, k7 i (owns_own d6.kep hi).1 this.2]
        · have f7 : Fr (OwnR b h5) w5 w7 := (g6.mono (fun i _ h => h.elim)).by g7 (fun i hi => .inl (.inr hi))
          exact f7.set ⟨b, 1, none⟩ _ (.inl (.inl rfl))
        · rintro i (rfl | hi)
          · exact .inl (.inl rfl)
          · exact (hv7 i hi).imp .inr (fun e => by omega)
    · rintro l u w6 ⟨q', h6, d6, t6, hp6⟩
      repeat (any_goals (first
      | (with_reducible refine pureM_in ?_)
      | (with_reducible first|refine pureQ_in ?_|refine gdQ_conv (fun _ => ?_)|refine pickQT ?_|refine pickQF ?_|refine pickQ_pos (by first|assumption|omega) ?_|refine pickQ_neg (by first|assumption|omega) ?_|refine pickQn_pos (by first|assumption|omega) ?_|refine pickQn_neg (by first|assumption|omega) ?_) | ((with_reducible refine oQ_one ?_ ?_); exact ⟨_, rfl⟩) | (with_reducible first|refine And.intro (Eq.refl (α := World) _) ?_|refine forall_one ?_|refine oQ_nil ?_) | (with_reducible refine oQ_of ⟨_, rfl⟩ (fun W0 hW0 => by (refine oM_gen (fun Kv hK => ?_)); simp [go_sem]; (first | exact hK _ _ ⟨rfl, rfl⟩ | exact ⟨by omega, hK _ _ ⟨rfl, rfl⟩⟩)) ?_)
      | (with_reducible first|refine gdtT ?_|refine gdtF ?_|refine gdfF ?_|refine gdfT ?_|refine gdu ?_ _|refine gdt_pos (by first|assumption|omega) ?_|refine gdt_neg (by first|assumption|omega) ?_|refine gdt_split (fun hg => ?_) (fun hg => ?_)|refine gdf_pos (by first|assumption|omega) ?_|refine gdf_neg (by first|assumption|omega) ?_|refine gdf_split (fun hg => ?_) (fun hg => ?_)|refine gdtn_pos (by first|assumption|omega) ?_|refine gdtn_neg (by first|assumption|omega) ?_|refine gdtn_split (fun hg => ?_) (fun hg => ?_)|refine gdfn_pos (by first|assumption|omega) ?_|refine gdfn_neg (by first|assumption|omega) ?_|refine gdfn_split (fun hg => ?_) (fun hg => ?_)|refine gdtbn_pos (by assumption) ?_|refine gdtbn_neg (by assumption) ?_|refine gdfbn_pos (by assumption) ?_|refine gdfbn_neg (by assumption) ?_|refine gdtb_pos (by assumption) ?_|refine gdtb_neg (by assumption) ?_|refine gdtb_split (fun hg => ?_) (fun hg => ?_)|refine gdfb_pos (by assumption) ?_|refine gdfb_neg (by assumption) ?_|refine gdfb_split (fun hg => ?_) (fun hg => ?_)|refine pickT ?_|refine pickF ?_|refine pick_pos (by first|assumption|omega) ?_|refine pick_neg (by first|assumption|omega) ?_|refine pickn_pos (by first|assumption|omega) ?_|refine pickn_neg (by first|assumption|omega) ?_|refine pickbn_pos (by assumption) ?_|refine pickbn_neg (by assumption) ?_|refine pickb_pos (by assumption) ?_|refine pickb_neg (by assumption) ?_|refine condT ?_|refine condF ?_|refine cond_pos (by first|assumption|omega) ?_|refine cond_neg (by first|assumption|omega) ?_|refine condM_dec (fun hg => ?_) (fun hg => ?_)|refine condn_pos (by first|assumption|omega) ?_|refine condn_neg (by first|assumption|omega) ?_|refine condM_ndec (fun hg => ?_) (fun hg => ?_)|refine condbn_pos (by assumption) ?_|refine condbn_neg (by assumption) ?_|refine condbn_split (fun hg => ?_) (fun hg => ?_)|refine condb_pos (by assumption) ?_|refine condb_neg (by assumption) ?_|refine condM_b (fun hg => ?_) (fun hg => ?_))
      | ((with_reducible refine oM_gen (fun Kv hK => ?_)); simp [go_sem]; (try simp (disch := omega) only [wrapI64, wrapU8, wrapU32, wrapU64]); (first | refine hK _ _ ?_ | refine And.intro (by omega) (hK _ _ ?_)); clear hK; clear Kv)))
      refine ⟨⟨n + 1, q', h6, by simp, by omega, d6, t6, hp6⟩, ?_⟩
      show ((m : Int) + 1 - ((n : Int) + 1)).toNat < _
      omega
  · rw [secsFrom_gt (by omega)] at hp
    have hp : q = _ := hp
    rw [hp] at d5
    exact k w5 h5 d5 t5
set_option maxHeartbeats 1000000 in
theorem add_ok (d : IsRf w b A h) (f : Int) (hf : 0 ≤ f ∧ f < 16) (a : Int) (h0 : 0 ≤ a) (s : Bs) (hfit : a + s.length ≤ 16777216) (k : ∀ w' h', IsRf w' b (addA A f a.toNat s) h' → StepR w b h w' h' → K (.tuple #[]) w') : callM Try.prog 53 #[dkP b, .int .i64 f, .int .i64 a, bsV s] K w := by
  apply rf_53_ok
  unfold rf_53
  obtain ⟨n, rfl⟩ := Int.eq_ofNat_of_zero_le h0
  rw [Int.toNat_natCast] at k
  by_cases hs : s = []
  · subst hs
    repeat (any_goals (first
    | (with_reducible refine pureM_in ?_)
    | (with_reducible first|refine pureQ_in ?_|refine gdQ_conv (fun _ => ?_)|refine pickQT ?_|refine pickQF ?_|refine pickQ_pos (by first|assumption|omega) ?_|refine pickQ_neg (by first|assumption|omega) ?_|refine pickQn_pos (by first|assumption|omega) ?_|refine pickQn_neg (by first|assumption|omega) ?_) | ((with_reducible refine oQ_one ?_ ?_); exact ⟨_, rfl⟩) | (with_reducible first|refine And.intro (Eq.refl (α := World) _) ?_|refine forall_one ?_|refine oQ_nil ?_) | (with_reducible refine oQ_of ⟨_, rfl⟩ (fun W0 hW0 => by (refine oM_gen (fun Kv hK => ?_)); simp [go_sem]; (first | exact hK _ _ ⟨rfl, rfl⟩ | exact ⟨by omega, hK _ _ ⟨rfl, rfl⟩⟩)) ?_)
    | (with_reducible first|refine gdtT ?_|refine gdtF ?_|refine gdfF ?_|refine gdfT ?_|refine gdu ?_ _|refine gdt_pos (by first|assumption|omega) ?_|refine gdt_neg (by first|assumption|omega) ?_|refine gdt_split (fun hg => ?_) (fun hg => ?_)|refine gdf_pos (by first|assumption|omega) ?_|refine gdf_neg (by first|assumption|omega) ?_|refine gdf_split (fun hg => ?_) (fun hg => ?_)|refine gdtn_pos (by first|assumption|omega) ?_|refine gdtn_neg (by first|assumption|omega) ?_|refine gdtn_split (fun hg => ?_) (fun hg => ?_)|refine gdfn_pos (by first|assumption|omega) ?_|refine gdfn_neg (by first|assumption|omega) ?_|refine gdfn_split (fun hg => ?_) (fun hg => ?_)|refine gdtbn_pos (by assumption) ?_|refine gdtbn_neg (by assumption) ?_|refine gdfbn_pos (by assumption) ?_|refine gdfbn_neg (by assumption) ?_|refine gdtb_pos (by assumption) ?_|refine gdtb_neg (by assumption) ?_|refine gdtb_split (fun hg => ?_) (fun hg => ?_)|refine gdfb_pos (by assumption) ?_|refine gdfb_neg (by assumption) ?_|refine gdfb_split (fun hg => ?_) (fun hg => ?_)|refine pickT ?_|refine pickF ?_|refine pick_pos (by first|assumption|omega) ?_|refine pick_neg (by first|assumption|omega) ?_|refine pickn_pos (by first|assumption|omega) ?_|refine pickn_neg (by first|assumption|omega) ?_|refine pickbn_pos (by assumption) ?_|refine pickbn_neg (by assumption) ?_|refine pickb_pos (by assumption) ?_|refine pickb_neg (by assumption) ?_|refine condT ?_|refine condF ?_|refine cond_pos (by first|assumption|omega) ?_|refine cond_neg (by first|assumption|omega) ?_|refine condM_dec (fun hg => ?_) (fun hg => ?_)|refine condn_pos (by first|assumption|omega) ?_|refine condn_neg (by first|assumption|omega) ?_|refine condM_ndec (fun hg => ?_) (fun hg => ?_)|refine condbn_pos (by assumption) ?_|refine condbn_neg (by assumption) ?_|refine condbn_split (fun hg => ?_) (fun hg => ?_)|refine condb_pos (by assumption) ?_|refine condb_neg (by assumption) ?_|refine condM_b (fun hg => ?_) (fun hg => ?_))
    | ((with_reducible refine oM_gen (fun Kv hK => ?_)); simp [go_sem]; (try simp (disch := omega) only [wrapI64, wrapU8, wrapU32, wrapU64]); (first | refine hK _ _ ?_ | refine And.intro (by omega) (hK _ _ ?_)); clear hK; clear Kv)))
    exact k w h d (StepR.refl _ _ _)
  have hne : ¬ ((⟨s.toArray⟩ : ByteArray) = ⟨#[]⟩) := fun e => hs ((ba_nil s).1 e)
  have e : addA A f n s = { ({ A with F := setF A.F f (putB (A.F f).1 n s, (A.F f).2) } : Ab) with queue := pushQ f A.queue (secs n s.length) } := by
    unfold addA; rw [if_neg hs]
  rw [e] at k
  have hsz := d.wf.sz f
  repeat (any_goals (first
  | (with_reducible refine pureM_in ?_)
  | (with_reducible first|refine pureQ_in ?_|refine gdQ_conv (fun _ => ?_)|refine pickQT ?_|refine pickQF ?_|refine pickQ_pos (by first|assumption|omega) ?_|refine pickQ_neg (by first|assumption|omega) ?_|refine pickQn_pos (by first|assumption|omega) ?_|refine pickQn_neg (by first|assumption|omega) ?_) | ((with_reducible refine oQ_one ?_ ?_); exact ⟨_, rfl⟩) | (with_reducible first|refine And.intro (Eq.refl (α := World) _) ?_|refine forall_one ?_|refine oQ_nil ?_) | (with_reducible refine oQ_of ⟨_, rfl⟩ (fun W0 hW0 => by (refine oM_gen (fun Kv hK => ?_)); simp [go_sem]; (first | exact hK _ _ ⟨rfl, rfl⟩ | exact ⟨by omega, hK _ _ ⟨rfl, rfl⟩⟩)) ?_)
  | (with_reducible first|refine gdtT ?_|refine gdtF ?_|refine gdfF ?_|refine gdfT ?_|refine gdu ?_ _|refine gdt_pos (by first|assumption|omega) ?_|refine gdt_neg (by first|assumption|omega) ?_|refine gdt_split (fun hg => ?_) (fun hg => ?_)|refine gdf_pos (by first|assumption|omega) ?_|refine gdf_neg (by first|assumption|omega) ?_|refine gdf_split (fun hg => ?_) (fun hg => ?_)|refine gdtn_pos (by first|assumption|omega) ?_|refine gdtn_neg (by first|assumption|omega) ?_|refine gdtn_split (fun hg => ?_) (fun hg => ?_)|refine gdfn_pos (by first|assumption|omega) ?_|refine gdfn_neg (by first|assumption|omega) ?_|refine gdfn_split (fun hg => ?_) (fun hg => ?_)|refine gdtbn_pos (by assumption) ?_|refine gdtbn_neg (by assumption) ?_|refine gdfbn_pos (by assumption) ?_|refine gdfbn_neg (by assumption) ?_|refine gdtb_pos (by assumption) ?_|refine gdtb_neg (by assumption) ?_|refine gdtb_split (fun hg => ?_) (fun hg => ?_)|refine gdfb_pos (by assumption) ?_|refine gdfb_neg (by assumption) ?_|refine gdfb_split (fun hg => ?_) (fun hg => ?_)|refine pickT ?_|refine pickF ?_|refine pick_pos (by first|assumption|omega) ?_|refine pick_neg (by first|assumption|omega) ?_|refine pickn_pos (by first|assumption|omega) ?_|refine pickn_neg (by first|assumption|omega) ?_|refine pickbn_pos (by assumption) ?_|refine pickbn_neg (by assumption) ?_|refine pickb_pos (by assumption) ?_|refine pickb_neg (by assumption) ?_|refine condT ?_|refine condF ?_|refine cond_pos (by first|assumption|omega) ?_|refine cond_neg (by first|assumption|omega) ?_|refine condM_dec (fun hg => ?_) (fun hg => ?_)|refine condn_pos (by first|assumption|omega) ?_|refine condn_neg (by first|assumption|omega) ?_|refine condM_ndec (fun hg => ?_) (fun hg => ?_)|refine condbn_pos (by assumption) ?_|refine condbn_neg (by assumption) ?_|refine condbn_split (fun hg => ?_) (fun hg => ?_)|refine condb_pos (by assumption) ?_|refine condb_neg (by assumption) ?_|refine condM_b (fun hg => ?_) (fun hg => ?_))
  | ((with_reducible refine oM_gen (fun Kv hK => ?_)); simp [go_sem]; (try simp (disch := omega) only [wrapI64, wrapU8, wrapU32, wrapU64]); (first | refine hK _ _ ?_ | refine And.intro (by omega) (hK _ _ ?_)); clear hK; clear Kv)))
  refine get_ok d f (fun w1 f1 => ?_)
  unfold filV
  repeat (any_goals (first
  | (with_reducible refine pureM_in ?_)
  | (with_reducible first|refine pureQ_in ?_|refine gdQ_conv (fun _ => ?_)|refine pickQT ?_|refine pickQF ?_|refine pickQ_pos (by first|assumption|omega) ?_|refine pickQ_neg (by first|assumption|omega) ?_|refine pickQn_pos (by first|assumption|omega) ?_|refine pickQn_neg (by first|assumption|omega) ?_) | ((with_reducible refine oQ_one ?_ ?_); exact ⟨_, rfl⟩) | (with_reducible first|refine And.intro (Eq.refl (α := World) _) ?_|refine forall_one ?_|refine oQ_nil ?_) | (with_reducible refine oQ_of ⟨_, rfl⟩ (fun W0 hW0 => by (refine oM_gen (fun Kv hK => ?_)); simp [go_sem]; (first | exact hK _ _ ⟨rfl, rfl⟩ | exact ⟨by omega, hK _ _ ⟨rfl, rfl⟩⟩)) ?_)
  | (with_reducible first|refine gdtT ?_|refine gdtF ?_|refine gdfF ?_|refine gdfT ?_|refine gdu ?_ _|refine gdt_pos (by first|assumption|omega) ?_|refine gdt_neg (by first|assumption|omega) ?_|refine gdt_split (fun hg => ?_) (fun hg => ?_)|refine gdf_pos (by first|assumption|omega) ?_|refine gdf_neg (by first|assumption|omega) ?_|refine gdf_split (fun hg => ?_) (fun hg => ?_)|refine gdtn_pos (by first|assumption|omega) ?_|refine gdtn_neg (by first|assumption|omega) ?_|refine gdtn_split (fun hg => ?_) (fun hg => ?_)|refine gdfn_pos (by first|assumption|omega) ?_|refine gdfn_neg (by first|assumption|omega) ?_|refine gdfn_split (fun hg => ?_) (fun hg => ?_)|refine gdtbn_pos (by assumption) ?_|refine gdtbn_neg (by assumption) ?_|refine gdfbn_pos (by assumption) ?_|refine gdfbn_neg (by assumption) ?_|refine gdtb_pos (by assumption) ?_|refine gdtb_neg (by assumption) ?_|refine gdtb_split (fun hg => ?_) (fun hg => ?_)|refine gdfb_pos (by assumption) ?_|refine gdfb_neg (by assumption) ?_|refine gdfb_split (fun hg => ?_) (fun hg => ?_)|refine pickT ?_|refine pickF ?_|refine pick_pos (by first|assumption|omega) ?_|refine pick_neg (by first|assumption|omega) ?_|refine pickn_pos (by first|assumption|omega) ?_|refine pickn_neg (by first|assumption|omega) ?_|refine pickbn_pos (by assumption) ?_|refine pickbn_neg (by assumption) ?_|refine pickb_pos (by assumption) ?_|refine pickb_neg (by assumption) ?_|refine condT ?_|refine condF ?_|refine cond_pos (by first|assumption|omega) ?_|refine cond_neg (by first|assumption|omega) ?_|refine condM_dec (fun hg => ?_) (fun hg => ?_)|refine condn_pos (by first|assumption|omega) ?_|refine condn_neg (by first|assumption|omega) ?_|refine condM_ndec (fun hg => ?_) (fun hg => ?_)|refine condbn_pos (by assumption) ?_|refine condbn_neg (by assumption) ?_|refine condbn_split (fun hg => ?_) (fun hg => ?_)|refine condb_pos (by assumption) ?_|refine condb_neg (by assumption) ?_|refine condM_b (fun hg => ?_) (fun hg => ?_))
  | ((with_reducible refine oM_gen (fun Kv hK => ?_)); simp [go_sem]; (try simp (disch := omega) only [wrapI64, wrapU8, wrapU32, wrapU64]); (first | refine hK _ _ ?_ | refine And.intro (by omega) (hK _ _ ?_)); clear hK; clear Kv)))
  have g2 : Fr (fun _ => False) w1 (w1.alloc (.cells #[.int .i64 f, .string ⟨(A.F f).1.toArray⟩, .string ⟨(A.F f).2.toArray⟩] 64 (0, 0))) := (Fr.refl _ _).alloc _
  have n3 := heap_alloc_new w1 (.cells #[.int .i64 f, .string ⟨(A.F f).1.toArray⟩, .string ⟨(A.F f).2.toArray⟩] 64 (0, 0))
  have hz3 := alloc_size w1 (.cells #[.int .i64 f, .string ⟨(A.F f).1.toArray⟩, .string ⟨(A.F f).2.toArray⟩] 64 (0, 0))
  generalize w1.alloc (.cells #[.int .i64 f, .string ⟨(A.F f).1.toArray⟩, .string ⟨(A.F f).2.toArray⟩] 64 (0, 0)) = w3 at *
  have f3 : Fr (fun _ => False) w w3 := f1.trans g2 (fun _ h => h.elim)
  refine rput_ok (A.F f).1 s (n : Int) (by omega) (by omega) hsz.1 ?_
  intro w4 f4
  rw [Int.toNat_natCast]
  have n4 := (f4.block w1.heap.size (by omega) (fun h => h)).trans n3
  have y1 := frozen_of_block n4 1
  have q1 := cell_of_block n4 1
  simp at q1
  have n5 := block_set (i := 1) n4 (bsV (putB (A.F f).1 n s))
  have f5 := (f3.trans f4 (fun _ h => h.elim)).set ⟨w1.heap.size, 1, none⟩ (bsV (putB (A.F f).1 n s)) (.inr f1.size)
  repeat (any_goals (first
  | (with_reducible refine pureM_in ?_)
  | (with_reducible first|refine pureQ_in ?_|refine gdQ_conv (fun _ => ?_)|refine pickQT ?_|refine pickQF ?_|refine pickQ_pos (by first|assumption|omega) ?_|refine pickQ_neg (by first|assumption|omega) ?_|refine pickQn_pos (by first|assumption|omega) ?_|refine pickQn_neg (by first|assumption|omega) ?_) | ((with_reducible refine oQ_one ?_ ?_); exact ⟨_, rfl⟩) | (with_reducible first|refine And.intro (Eq.refl (α := World) _) ?_|refine forall_one ?_|refine oQ_nil ?_) | (with_reducible refine oQ_of ⟨_, rfl⟩ (fun W0 hW0 => by (refine oM_gen (fun Kv hK => ?_)); simp [go_sem]; (first | exact hK _ _ ⟨rfl, rfl⟩ | exact ⟨by omega, hK _ _ ⟨rfl, rfl⟩⟩)) ?_)
  | (with_reducible first|refine gdtT ?_|refine gdtF ?_|refine gdfF ?_|refine gdfT ?_|refine gdu ?_ _|refine gdt_pos (by first|assumption|omega) ?_|refine gdt_neg (by first|assumption|omega) ?_|refine gdt_split (fun hg => ?_) (fun hg => ?_)|refine gdf_pos (by first|assumption|omega) ?_|refine gdf_neg (by first|assumption|omega) ?_|refine gdf_split (fun hg => ?_) (fun hg => ?_)|refine gdtn_pos (by first|assumption|omega) ?_|refine gdtn_neg (by first|assumption|omega) ?_|refine gdtn_split (fun hg => ?_) (fun hg => ?_)|refine gdfn_pos (by first|assumption|omega) ?_|refine gdfn_neg (by first|assumption|omega) ?_|refine gdfn_split (fun hg => ?_) (fun hg => ?_)|refine gdtbn_pos (by assumption) ?_|refine gdtbn_neg (by assumption) ?_|refine gdfbn_pos (by assumption) ?_|refine gdfbn_neg (by assumption) ?_|refine gdtb_pos (by assumption) ?_|refine gdtb_neg (by assumption) ?_|refine gdtb_split (fun hg => ?_) (fun hg => ?_)|refine gdfb_pos (by assumption) ?_|refine gdfb_neg (by assumption) ?_|refine gdfb_split (fun hg => ?_) (fun hg => ?_)|refine pickT ?_|refine pickF ?_|refine pick_pos (by first|assumption|omega) ?_|refine pick_neg (by first|assumption|omega) ?_|refine pickn_pos (by first|assumption|omega) ?_|refine pickn_neg (by first|assumption|omega) ?_|refine pickbn_pos (by assumption) ?_|refine pickbn_neg (by assumption) ?_|refine pickb_pos (by assumption) ?_|refine pickb_neg (by assumption) ?_|refine condT ?_|refine condF ?_|refine cond_pos (by first|assumption|omega) ?_|refine cond_neg (by first|assumption|omega) ?_|refine condM_dec (fun hg => ?_) (fun hg => ?_)|refine condn_pos (by first|assumption|omega) ?_|refine condn_neg (by first|assumption|omega) ?_|refine condM_ndec (fun hg => ?_) (fun hg => ?_)|refine condbn_pos (by assumption) ?_|refine condbn_neg (by assumption) ?_|refine condbn_split (fun hg => ?_) (fun hg => ?_)|refine condb_pos (by assumption) ?_|refine condb_neg (by assumption) ?_|refine condM_b (fun hg => ?_) (fun hg => ?_))
  | ((with_reducible refine oM_gen (fun Kv hK => ?_)); simp [go_sem, y1, q1]; (try simp (disch := omega) only [wrapI64, wrapU8, wrapU32, wrapU64]); (first | refine hK _ _ ?_ | refine And.intro (by omega) (hK _ _ ?_)); clear hK; clear Kv)))
  generalize w4.setCell ⟨w1.heap.size, 1, none⟩ (bsV (putB (A.F f).1 n s)) = w5 at *
  have p0 := cell_of_block n5 0
  have p1 := cell_of_block n5 1
  have p2 := cell_of_block n5 2
  simp at p0 p1 p2
  have hld := loadFil (o := 0) p0 p1 p2
  have d5 := d.fresh f5
  have hpl := putB_length (A.F f).1 n s
  rw [if_neg hs] at hpl
  repeat (any_goals (first
  | (with_reducible refine pureM_in ?_)
  | (with_reducible first|refine pureQ_in ?_|refine gdQ_conv (fun _ => ?_)|refine pickQT ?_|refine pickQF ?_|refine pickQ_pos (by first|assumption|omega) ?_|refine pickQ_neg (by first|assumption|omega) ?_|refine pickQn_pos (by first|assumption|omega) ?_|refine pickQn_neg (by first|assumption|omega) ?_) | ((with_reducible refine oQ_one ?_ ?_); exact ⟨_, rfl⟩) | (with_reducible first|refine And.intro (Eq.refl (α := World) _) ?_|refine forall_one ?_|refine oQ_nil ?_) | (with_reducible refine oQ_of ⟨_, rfl⟩ (fun W0 hW0 => by (refine oM_gen (fun Kv hK => ?_)); simp [go_sem]; (first | exact hK _ _ ⟨rfl, rfl⟩ | exact ⟨by omega, hK _ _ ⟨rfl, rfl⟩⟩)) ?_)
  | (rw [oM_load, hld, rM_ok])
  | (with_reducible first|refine gdtT ?_|refine gdtF ?_|refine gdfF ?_|refine gdfT ?_|refine gdu ?_ _|refine gdt_pos (by first|assumption|omega) ?_|refine gdt_neg (by first|assumption|omega) ?_|refine gdt_split (fun hg => ?_) (fun hg => ?_)|refine gdf_pos (by first|assumption|omega) ?_|refine gdf_neg (by first|assumption|omega) ?_|refine gdf_split (fun hg => ?_) (fun hg => ?_)|refine gdtn_pos (by first|assumption|omega) ?_|refine gdtn_neg (by first|assumption|omega) ?_|refine gdtn_split (fun hg => ?_) (fun hg => ?_)|refine gdfn_pos (by first|assumption|omega) ?_|refine gdfn_neg (by first|assumption|omega) ?_|refine gdfn_split (fun hg => ?_) (fun hg => ?_)|refine gdtbn_pos (by assumption) ?_|refine gdtbn_neg (by assumption) ?_|refine gdfbn_pos (by assumption) ?_|refine gdfbn_neg (by assumption) ?_|refine gdtb_pos (by assumption) ?_|refine gdtb_neg (by assumption) ?_|refine gdtb_split (fun hg => ?_) (fun hg => ?_)|refine gdfb_pos (by assumption) ?_|refine gdfb_neg (by assumption) ?_|refine gdfb_split (fun hg => ?_) (fun hg => ?_)|refine pickT ?_|refine pickF ?_|refine pick_pos (by first|assumption|omega) ?_|refine pick_neg (by first|assumption|omega) ?_|refine pickn_pos (by first|assumption|omega) ?_|refine pickn_neg (by first|assumption|omega) ?_|refine pickbn_pos (by assumption) ?_|refine pickbn_neg (by assumption) ?_|refine pickb_pos (by assumption) ?_|refine pickb_neg (by assumption) ?_|refine condT ?_|refine condF ?_|refine cond_pos (by first|assumption|omega) ?_|refine cond_neg (by first|assumption|omega) ?_|refine condM_dec (fun hg => ?_) (fun hg => ?_)|refine condn_pos (by first|assumption|omega) ?_|refine condn_neg (by first|assumption|omega) ?_|refine condM_ndec (fun hg => ?_) (fun hg => ?_)|refine condbn_pos (by assumption) ?_|refine condbn_neg (by assumption) ?_|refine condbn_split (fun hg => ?_) (fun hg => ?_)|refine condb_pos (by assumption) ?_|refine condb_neg (by assumption) ?_|refine condM_b (fun hg => ?_) (fun hg => ?_))
  | ((with_reducible refine oM_gen (fun Kv hK => ?_)); simp [go_sem]; (try simp (disch := omega) only [wrapI64, wrapU8, wrapU32, wrapU64]); (first | refine hK _ _ ?_ | refine And.intro (by omega) (hK _ _ ?_)); clear hK; clear Kv)))
  refine set_ok d5 f hf (putB (A.F f).1 n s, (A.F f).2) ⟨by show (putB _ _ _).length ≤ _; omega, hsz.2⟩ (fun w6 h6 d6 t6 => ?_)
  exact addCut_ok d6 f hf n s hs (by omega) (fun w7 h7 d7 t7 => k w7 h7 d7 ((StepR.fresh f5).trans (t6.trans t7)))
end
end Go.Proofs
