/- DkR9: a part of the proof of the seat's statements: lemmas about the given translation and plain laws. No condition of its own. -/
--Q
import Derived.Test.YtefjibjojkjiiaaDkR8
set_option linter.all false
namespace Go.Proofs
open Go Go.Sh Go.RowKit DkSpec
set_option linter.unusedSimpArgs false
set_option linter.unusedVariables false
set_option maxRecDepth 10000
section
variable {w w1 : World} {b rb b' : Nat} {A B A1 B1 : Ab} {h h' h1 : Dk} {hr hr1 : Rh} {K : Value → World → Prop} {n : Nat}
theorem StepR.below (t : StepR w b hr w1 hr1) (ho : ∀ i, OwnR b hr i → n ≤ i) (hn : n ≤ w.heap.size) : Below n w w1 := below_fr t.fr (fun i _ h => ho i h) hn
theorem StepR.owns (t : StepR w b hr w1 hr1) (ho : ∀ i, OwnR b hr i → n ≤ i) (hn : n ≤ w.heap.size) : ∀ i, OwnR b hr1 i → n ≤ i := fun i hi => (t.own i hi).elim (ho i) (fun e => by omega)
/-- a disk and a disk of the reference that share nothing -/
structure Mix (n : Nat) (w : World) (b : Nat) (A : Ab) (h : Dk) (rb : Nat) (B : Ab) (hr : Rh) : Prop where
  one : IsDk w b A h
  two : IsRf w rb B hr
  o1 : ∀ i, Own b h i → n ≤ i
  o2 : ∀ i, OwnR rb hr i → n ≤ i
  s1 : ∀ i, Own b h i → ¬ (OwnR rb hr i ∨ RdbR hr i)
  s2 : ∀ i, OwnR rb hr i → ¬ (Own b h i ∨ Rdb h i)
theorem Mix.le (D : Mix n w b A h rb B hr) : n ≤ w.heap.size := by
  have h1 := D.o1 b (.inl rfl)
  have h2 := D.one.lt (.inl (.inl rfl))
  omega
theorem Mix.left (D : Mix n w b A h rb B hr) (d : IsDk w1 b A1 h1) (t : Step w b h w1 h1) : Mix n w1 b A1 h1 rb B hr := by
  refine ⟨d, D.two.keep (fun i hi => t.fr.block i (D.two.lt hi) (fun ho => D.s1 i ho hi)), t.owns D.o1 D.le, D.o2, ?_, ?_⟩
  · intro i hi hj
    rcases t.own i hi with e | e
    · exact D.s1 i e hj
    · have := D.two.lt hj; omega
  · intro i hi hj
    have hlt := D.two.lt (.inl hi)
    rcases hj with hj | hj
    · rcases t.own i hj with e | e
      · exact D.s2 i hi (.inl e)
      · omega
    · rcases t.rd i hj with e | e
      · exact D.s2 i hi (.inr e)
      · omega
theorem Mix.right (D : Mix n w b A h rb B hr) (d : IsRf w1 rb B1 hr1) (t : StepR w rb hr w1 hr1) : Mix n w1 b A h rb B1 hr1 := by
  refine ⟨D.one.keep (fun i hi => t.fr.block i (D.one.lt hi) (fun ho => D.s2 i ho hi)), d, D.o1, t.owns D.o2 D.le, ?_, ?_⟩
  · intro i hi hj
    have hlt := D.one.lt (.inl hi)
    rcases hj with hj | hj
    · rcases t.own i hj with e | e
      · exact D.s1 i hi (.inl e)
      · omega
    · rcases t.rd i hj with e | e
      · exact D.s1 i hi (.inr e)
      · omega
  · intro i hi hj
    rcases t.own i hi with e | e
    · exact D.s2 i e hj
    · have := D.one.lt hj; omega
theorem Mix.fresh (D : Mix n w b A h rb B hr) (f : Fr (fun _ => False) w w1) : Mix n w1 b A h rb B hr := ⟨D.one.fresh f, D.two.fresh f, D.o1, D.o2, D.s1, D.s2⟩
theorem Mix.heap (D : Mix n w b A h rb B hr) (e : w1.heap = w.heap) : Mix n w1 b A h rb B hr := ⟨D.one.heap e, D.two.heap e, D.o1, D.o2, D.s1, D.s2⟩
theorem mix_new (d0 : IsDk w b A h) (ho : ∀ i, Own b h i → n ≤ i) (hn : n ≤ w.heap.size) (d' : IsRf w1 rb B hr) (f : Fr (fun _ => False) w w1) (hw : ∀ i, OwnR rb hr i → w.heap.size ≤ i) (hrd : ∀ i, ¬ RdbR hr i) : Mix n w1 b A h rb B hr := by
  refine ⟨d0.fresh f, d', ho, fun i hi => by have := hw i hi; omega, ?_, ?_⟩
  · rintro i hi (hj | hj)
    · have := hw i hj
      have := d0.lt (.inl hi)
      omega
    · exact hrd i hj
  · intro i hi hj
    have := hw i hi
    have := d0.lt hj
    omega
/-- the copy of the disk -/
theorem mix_copy (D : Mix n w b A h rb B hr) (d' : IsDk w1 b' A1 h') (f : Fr (fun _ => False) w w1) (hw : ∀ i, Own b' h' i → w.heap.size ≤ i) (hrd : ∀ i, Rdb h' i → Rdb h i) : Mix n w1 b' A1 h' rb B hr := by
  have hn := D.le
  refine ⟨d', D.two.fresh f, fun i hi => by have := hw i hi; omega, D.o2, ?_, ?_⟩
  · intro i hi hj
    have := hw i hi
    have := D.two.lt hj
    omega
  · rintro i hi (hj | hj)
    · have := hw i hj
      have := D.two.lt (.inl hi)
      omega
    · exact D.s2 i hi (.inr (hrd i hj))
set_option maxHeartbeats 1000000 in
theorem rdo_ok {N : Nat} (d : IsRf w rb B hr) (ho : ∀ i, OwnR rb hr i → N ≤ i) {x : Act} {vk : Value} (hc : ActCells N w [.int .i64 x.k, .int .i64 x.f, .int .i64 x.n, bsV x.s, vk] x) (hs : x.s.length ≤ 300) (hl : x.keep.length ≤ 60) (k : ∀ w' h', IsRf w' rb (doA B x).2 h' → StepR w rb hr w' h' → K (.int .i64 (doA B x).1) w') : callM Try.prog 12 #[dkP rb, .agg #[.int .i64 x.k, .int .i64 x.f, .int .i64 x.n, bsV x.s, vk]] K w := by
  apply rf_12_ok
  unfold rf_12
  obtain ⟨vk', hvk, hrow⟩ := hc.row
  simp at hvk
  subst hvk
  have hN : N ≤ w.heap.size := by have := ho rb (.inl rfl); have := d.lt (.inl (.inl rfl)); omega
  repeat (any_goals (first
  | (with_reducible refine pureM_in ?_)
  | (with_reducible first|refine pureQ_in ?_|refine gdQ_conv (fun _ => ?_)|refine pickQT ?_|refine pickQF ?_|refine pickQ_pos (by first|assumption|omega) ?_|refine pickQ_neg (by first|assumption|omega) ?_|refine pickQn_pos (by first|assumption|omega) ?_|refine pickQn_neg (by first|assumption|omega) ?_) | ((with_reducible refine oQ_one ?_ ?_); exact ⟨_, rfl⟩) | (with_reducible first|refine And.intro (Eq.refl (α := World) _) ?_|refine forall_one ?_|refine oQ_nil ?_) | (with_reducible refine oQ_of ⟨_, rfl⟩ (fun W0 hW0 => by (refine oM_gen (fun Kv hK => ?_)); simp [go_sem]; (first | exact hK _ _ ⟨rfl, rfl⟩ | exact ⟨by omega, hK _ _ ⟨rfl, rfl⟩⟩)) ?_)
  | (with_reducible first|refine gdtT ?_|refine gdtF ?_|refine gdfF ?_|refine gdfT ?_|refine gdu ?_ _|refine gdt_pos (by first|assumption|omega) ?_|refine gdt_neg (by first|assumption|omega) ?_|refine gdt_split (fun hg => ?_) (fun hg => ?_)|refine gdf_pos (by first|assumption|omega) ?_|refine gdf_neg (by first|assumption|omega) ?_|refine gdf_split (fun hg => ?_) (fun hg => ?_)|refine gdtn_pos (by first|assumption|omega) ?_|refine gdtn_neg (by first|assumption|omega) ?_|refine gdtn_split (fun hg => ?_) (fun hg => ?_)|refine gdfn_pos (by first|assumption|omega) ?_|refine gdfn_neg (by first|assumption|omega) ?_|refine gdfn_split (fun hg => ?_) (fun hg => ?_)|refine gdtbn_pos (by assumption) ?_|refine gdtbn_neg (by assumption) ?_|refine gdfbn_pos (by assumption) ?_|refine gdfbn_neg (by assumption) ?_|refine gdtb_pos (by assumption) ?_|refine gdtb_neg (by assumption) ?_|refine gdtb_split (fun hg => ?_) (fun hg => ?_)|refine gdfb_pos (by assumption) ?_|refine gdfb_neg (by assumption) ?_|refine gdfb_split (fun hg => ?_) (fun hg => ?_)|refine pickT ?_|refine pickF ?_|refine pick_pos (by first|assumption|omega) ?_|refine pick_neg (by first|assumption|omega) ?_|refine pickn_pos (by first|assumption|omega) ?_|refine pickn_neg (by first|assumption|omega) ?_|refine pickbn_pos (by assumption) ?_|refine pickbn_neg (by assumption) ?_|refine pickb_pos (by assumption) ?_|refine pickb_neg (by assumption) ?_|refine condT ?_|refine condF ?_|refine cond_pos (by first|assumption|omega) ?_|refine cond_neg (by first|assumption|omega) ?_|refine condM_dec (fun hg => ?_) (fun hg => ?_)|refine condn_pos (by first|assumption|omega) ?_|refine condn_neg (by first|assumption|omega) ?_|refine condM_ndec (fun hg => ?_) (fun hg => ?_)|refine condbn_pos (by assumption) ?_|refine condbn_neg (by assumption) ?_|refine condbn_split (fun hg => ?_) (fun hg => ?_)|refine condb_pos (by assumption) ?_|refine condb_neg (by assumption) ?_|refine condM_b (fun hg => ?_) (fun hg => ?_))
  | ((with_reducible refine oM_gen (fun Kv hK => ?_)); simp [go_sem]; (try simp (disch := omega) only [wrapI64, wrapU8, wrapU32, wrapU64]); (first | refine hK _ _ ?_ | refine And.intro (by omega) (hK _ _ ?_)); clear hK; clear Kv)))
  have f0 : Fr (fun _ => False) w (w.alloc (.cells #[.int .i64 x.k, .int .i64 x.f, .int .i64 x.n, bsV x.s, vk] 33 (0, 0))) := (Fr.refl _ _).alloc _
  have n0 := heap_alloc_new w (.cells #[.int .i64 x.k, .int .i64 x.f, .int .i64 x.n, bsV x.s, vk] 33 (0, 0))
  generalize w.alloc (.cells #[.int .i64 x.k, .int .i64 x.f, .int .i64 x.n, bsV x.s, vk] 33 (0, 0)) = w0 at *
  have d0 := d.fresh f0
  have t0 : StepR w rb hr w0 hr := StepR.fresh f0
  have b0 : Below N w w0 := (below_none f0).mono hN
  have hrow0 := hrow.below b0
  have k0 : ∀ w' h' r A', IsRf w' rb A' h' → StepR w0 rb hr w' h' → doA B x = (r, A') → K (.int .i64 r) w' := fun w' h' r A' d' t' e => by
    have := k w' h' (by rw [e]; exact d') (t0.trans t')
    rw [e] at this; exact this
  clear k
  have e0 := cell_of_block n0 0
  have e1 := cell_of_block n0 1
  have e2 := cell_of_block n0 2
  have e3 := cell_of_block n0 3
  have e4 := cell_of_block n0 4
  simp at e0 e1 e2 e3 e4
  have hx0 := hc.nin
  have hx1 := hc.fin
  have hx2 := hc.kin
  unfold InR at hx0 hx1 hx2
  have hz := b0.size
  have hkeep : ∀ w', Fr (OwnR rb hr) w0 w' → RowR intC 1 w' vk x.keep := fun w' f' => (hrow0.below (below_fr f' (fun i _ hi => ho i hi) (by omega))).row (by have := f'.size; omega)
  unfold doA at k0
  refine ⟨fun _ w' => ∃ h' A', IsRf w' rb A' h' ∧ StepR w0 rb hr w' h' ∧ doA B x = (0, A'), ?_, ?_⟩
  · repeat (any_goals (first
    | (with_reducible refine pureM_in ?_)
    | (with_reducible first|refine pureQ_in ?_|refine gdQ_conv (fun _ => ?_)|refine pickQT ?_|refine pickQF ?_|refine pickQ_pos (by first|assumption|omega) ?_|refine pickQ_neg (by first|assumption|omega) ?_|refine pickQn_pos (by first|assumption|omega) ?_|refine pickQn_neg (by first|assumption|omega) ?_) | ((with_reducible refine oQ_one ?_ ?_); exact ⟨_, rfl⟩) | (with_reducible first|refine And.intro (Eq.refl (α := World) _) ?_|refine forall_one ?_|refine oQ_nil ?_) | (with_reducible refine oQ_of ⟨_, rfl⟩ (fun W0 hW0 => by (refine oM_gen (fun Kv hK => ?_)); simp [go_sem]; (first | exact hK _ _ ⟨rfl, rfl⟩ | exact ⟨by omega, hK _ _ ⟨rfl, rfl⟩⟩)) ?_)
    | (with_reducible first|refine gdtT ?_|refine gdtF ?_|refine gdfF ?_|refine gdfT ?_|refine gdu ?_ _|refine gdt_pos (by first|assumption|omega) ?_|refine gdt_neg (by first|assumption|omega) ?_|refine gdt_split (fun hg => ?_) (fun hg => ?_)|refine gdf_pos (by first|assumption|omega) ?_|refine gdf_neg (by first|assumption|omega) ?_|refine gdf_split (fun hg => ?_) (fun hg => ?_)|refine gdtn_pos (by first|assumption|omega) ?_|refine gdtn_neg (by first|assumption|omega) ?_|refine gdtn_split (fun hg => ?_) (fun hg => ?_)|refine gdfn_pos (by first|assumption|omega) ?_|refine gdfn_neg (by first|assumption|omega) ?_|refine gdfn_split (fun hg => ?_) (fun hg => ?_)|refine gdtbn_pos (by assumption) ?_|refine gdtbn_neg (by assumption) ?_|refine gdfbn_pos (by assumption) ?_|refine gdfbn_neg (by assumption) ?_|refine gdtb_pos (by assumption) ?_|refine gdtb_neg (by assumption) ?_|refine gdtb_split (fun hg => ?_) (fun hg => ?_)|refine gdfb_pos (by assumption) ?_|refine gdfb_neg (by assumption) ?_|refine gdfb_split (fun hg => ?_) (fun hg => ?_)|refine pickT ?_|refine pickF ?_|refine pick_pos (by first|assumption|omega) ?_|refine pick_neg (by first|assumption|omega) ?_|refine pickn_pos (by first|assumption|omega) ?_|refine pickn_neg (by first|assumption|omega) ?_|refine pickbn_pos (by assumption) ?_|refine pickbn_neg (by assumption) ?_|refine pickb_pos (by assumption) ?_|refine pickb_neg (by assumption) ?_|refine condT ?_|refine condF ?_|refine cond_pos (by first|assumption|omega) ?_|refine cond_neg (by first|assumption|omega) ?_|refine condM_dec (fun hg => ?_) (fun hg => ?_)|refine condn_pos (by first|assumption|omega) ?_|refine condn_neg (by first|assumption|omega) ?_|refine condM_ndec (fun hg => ?_) (fun hg => ?_)|refine condbn_pos (by assumption) ?_|refine condbn_neg (by assumption) ?_|refine condbn_split (fun hg => ?_) (fun hg => ?_)|refine condb_pos (by assumption) ?_|refine condb_neg (by assumption) ?_|refine condM_b (fun hg => ?_) (fun hg => ?_))
    | ((with_reducible refine oM_gen (fun Kv hK => ?_)); simp [go_sem, e0, e1, e2, e3, e4]; (try simp (disch := omega) only [wrapI64, wrapU8, wrapU32, wrapU64]); (first | refine hK _ _ ?_ | refine And.intro (by omega) (hK _ _ ?_)); clear hK; clear Kv)))
    · have hk := hg
      exact rSync_ok d0 x.f (fun w' h' d' t' => k0 w' h' _ _ d' t' (by rw [if_pos hk]))
    · rename_i g2
      have hk := hg
      exact rTrunc_ok d0 x.f x.n (fun w' h' d' t' => k0 w' h' _ _ d' t' (by rw [if_neg g2, if_pos hk]))
    · rename_i g2 g3
      have hk := hg
      refine rlose_ok d0 (x.n % 4) (by omega) (fun w' d' t' => ⟨hr, _, d', t', by unfold doA; rw [if_neg g2, if_neg g3, if_pos hk]⟩)
    · rename_i g2 g3 g4
      have hk := hg
      refine rarm_ok d0 x.n hx0.2 (hkeep _ (Fr.refl _ _)) hkeep (by omega) hc.kr (fun w' h' d' t' => ⟨h', _, d', t', by unfold doA; rw [if_neg g2, if_neg g3, if_neg g4, if_pos hk]⟩)
    · rename_i g2 g3 g4 g5
      have hk := hg
      refine rcrash_ok d0 (by omega) hkeep (fun w' h' d' t' => ⟨h', _, d', t', by unfold doA; rw [if_neg g2, if_neg g3, if_neg g4, if_neg g5, if_pos hk]⟩)
    · rename_i g2 g3 g4 g5 g6
      have hk := hg
      refine rstart_ok d0 (fun w' d' t' => ⟨hr, _, d', t', by unfold doA; rw [if_neg g2, if_neg g3, if_neg g4, if_neg g5, if_neg g6, if_pos hk]⟩)
    · rename_i g2 g3 g4 g5 g6
      have hk := hg
      exact rWrite_ok d0 x.f x.n x.s (by omega) (by omega) (fun w' h' d' t' => k0 w' h' _ _ d' t' (by rw [if_neg g2, if_neg g3, if_neg g4, if_neg g5, if_neg g6, if_neg hk]))
  · rintro l u w' ⟨h', A', d', t', e⟩
    exact k0 w' h' 0 A' d' t' e
end
end Go.Proofs
