/- DkH: a part of the proof of the seat's statements: lemmas about the given translation and plain laws. No condition of its own. -/
--Q
import Derived.Test.YtefjibjojkjiiaaDkG
set_option linter.all false
namespace Go.Proofs
open Go Go.Sh Go.RowKit DkSpec
set_option linter.unusedSimpArgs false
set_option maxRecDepth 10000
section
variable {w : World} {b : Nat} {A : Ab} {h : Dk} {K : Value → World → Prop}
@[go_sem] theorem oM_makeFuncC {P : Program} (fn : Fn) (T : TypeId) (x : Value) : oM P (.makeFunc fn #[] #[.tmp 0]) T [x] K w = K (.func fn #[] #[x]) w := oM_of_run (by simp [xop, execOp, evalL, evE, Instr.makeFunc])
theorem settle_ok (d : IsDk w b A h) (f : Int) (s : Bs) (hs : s.length ≤ 16777216) (k : ∀ w' h', IsDk w' b (settleA A f s) h' → Step w b h w' h' → K (.tuple #[]) w') : callM Try.prog 44 #[dkP b, .int .i64 f, bsV s] K w := by
  apply sh_44_ok
  unfold sh_44
  repeat (any_goals (first
  | (with_reducible refine pureM_in ?_)
  | (with_reducible first|refine pureQ_in ?_|refine gdQ_conv (fun _ => ?_)|refine pickQT ?_|refine pickQF ?_|refine pickQ_pos (by first|assumption|omega) ?_|refine pickQ_neg (by first|assumption|omega) ?_|refine pickQn_pos (by first|assumption|omega) ?_|refine pickQn_neg (by first|assumption|omega) ?_) | ((with_reducible refine oQ_one ?_ ?_); exact ⟨_, rfl⟩) | (with_reducible first|refine And.intro (Eq.refl (α := World) _) ?_|refine forall_one ?_|refine oQ_nil ?_) | (with_reducible refine oQ_of ⟨_, rfl⟩ (fun W0 hW0 => by (refine oM_gen (fun Kv hK => ?_)); simp [go_sem]; (first | exact hK _ _ ⟨rfl, rfl⟩ | exact ⟨by omega, hK _ _ ⟨rfl, rfl⟩⟩)) ?_)
  | (with_reducible first|refine gdtT ?_|refine gdtF ?_|refine gdfF ?_|refine gdfT ?_|refine gdu ?_ _|refine gdt_pos (by first|assumption|omega) ?_|refine gdt_neg (by first|assumption|omega) ?_|refine gdt_split (fun hg => ?_) (fun hg => ?_)|refine gdf_pos (by first|assumption|omega) ?_|refine gdf_neg (by first|assumption|omega) ?_|refine gdf_split (fun hg => ?_) (fun hg => ?_)|refine gdtn_pos (by first|assumption|omega) ?_|refine gdtn_neg (by first|assumption|omega) ?_|refine gdtn_split (fun hg => ?_) (fun hg => ?_)|refine gdfn_pos (by first|assumption|omega) ?_|refine gdfn_neg (by first|assumption|omega) ?_|refine gdfn_split (fun hg => ?_) (fun hg => ?_)|refine gdtbn_pos (by assumption) ?_|refine gdtbn_neg (by assumption) ?_|refine gdfbn_pos (by assumption) ?_|refine gdfbn_neg (by assumption) ?_|refine gdtb_pos (by assumption) ?_|refine gdtb_neg (by assumption) ?_|refine gdtb_split (fun hg => ?_) (fun hg => ?_)|refine gdfb_pos (by assumption) ?_|refine gdfb_neg (by assumption) ?_|refine gdfb_split (fun hg => ?_) (fun hg => ?_)|refine pickT ?_|refine pickF ?_|refine pick_pos (by first|assumption|omega) ?_|refine pick_neg (by first|assumption|omega) ?_|refine pickn_pos (by first|assumption|omega) ?_|refine pickn_neg (by first|assumption|omega) ?_|refine pickbn_pos (by assumption) ?_|refine pickbn_neg (by assumption) ?_|refine pickb_pos (by assumption) ?_|refine pickb_neg (by assumption) ?_|refine condT ?_|refine condF ?_|refine cond_pos (by first|assumption|omega) ?_|refine cond_neg (by first|assumption|omega) ?_|refine condM_dec (fun hg => ?_) (fun hg => ?_)|refine condn_pos (by first|assumption|omega) ?_|refine condn_neg (by first|assumption|omega) ?_|refine condM_ndec (fun hg => ?_) (fun hg => ?_)|refine condbn_pos (by assumption) ?_|refine condbn_neg (by assumption) ?_|refine condbn_split (fun hg => ?_) (fun hg => ?_)|refine condb_pos (by assumption) ?_|refine condb_neg (by assumption) ?_|refine condM_b (fun hg => ?_) (fun hg => ?_))
  | ((with_reducible refine oM_gen (fun Kv hK => ?_)); simp [go_sem]; (try simp (disch := omega) only [wrapI64, wrapU8, wrapU32, wrapU64]); (first | refine hK _ _ ?_ | refine And.intro (by omega) (hK _ _ ?_)); clear hK; clear Kv)))
  have pf : Fr (fun _ => False) w (w.alloc (.cells #[.int .i64 f] 3 (0, 0))) := (Fr.refl _ _).alloc _
  have p0 := heap_alloc_new w (.cells #[.int .i64 f] 3 (0, 0))
  have pz := alloc_size w (.cells #[.int .i64 f] 3 (0, 0))
  generalize w.alloc (.cells #[.int .i64 f] 3 (0, 0)) = w1 at *
  have d1 := d.fresh pf
  have c0 := d1.c 0
  simp only [dkCells] at c0
  have p00 := cell_of_block p0 0
  simp at p00
  refine ⟨fun sg w' => sg ≤ 1 → w'.heap = w1.heap, fun _ => rfl, ?_⟩
  repeat (first | (with_reducible refine pureH_in ?_) | (with_reducible refine oH_nil ?_) | (with_reducible refine gdH_true rfl ?_) | (with_reducible refine gdH_false rfl ?_) | (refine oH_of ⟨_, rfl⟩ (fun W0 hW0 => by (obtain ⟨s0, hs0, hC⟩ := hW0); (refine oM_gen (fun Kv hK => ?_)); simp [go_sem, cell_heap (hC (by omega)), c0, p00]; (first | exact hK _ _ ⟨rfl, rfl⟩ | exact ⟨by omega, hK _ _ ⟨rfl, rfl⟩⟩)) ?_))
  generalize hw2 : ({ w1 with drawn := w1.drawn + 1 } : World) = w2
  have hh : w2.heap = w1.heap := by rw [← hw2]
  have d2 := d1.heap hh
  have f2 : Fr (fun _ => False) w w2 := by rw [← hw2]; exact pf.drew
  have p2 : w2.heap[w.heap.size]? = some (.cells #[.int .i64 f] 3 (0, 0)) := by rw [hh]; exact p0
  rw [← hh] at pz
  clear hw2
  obtain ⟨w4, hr4, d4, t4⟩ := d2.setFile f (s, s) ⟨hs, hs⟩
  simp only at hr4
  repeat (any_goals (first
  | (with_reducible refine pureM_in ?_)
  | (with_reducible first|refine pureQ_in ?_|refine gdQ_conv (fun _ => ?_)|refine pickQT ?_|refine pickQF ?_|refine pickQ_pos (by first|assumption|omega) ?_|refine pickQ_neg (by first|assumption|omega) ?_|refine pickQn_pos (by first|assumption|omega) ?_|refine pickQn_neg (by first|assumption|omega) ?_) | ((with_reducible refine oQ_one ?_ ?_); exact ⟨_, rfl⟩) | (with_reducible first|refine And.intro (Eq.refl (α := World) _) ?_|refine forall_one ?_|refine oQ_nil ?_) | (with_reducible refine oQ_of ⟨_, rfl⟩ (fun W0 hW0 => by (refine oM_gen (fun Kv hK => ?_)); simp [go_sem]; (first | exact hK _ _ ⟨rfl, rfl⟩ | exact ⟨by omega, hK _ _ ⟨rfl, rfl⟩⟩)) ?_)
  | (with_reducible refine And.intro (fun _ => hh) ?_) | (with_reducible refine And.intro (fun hs => absurd hs (by decide)) ?_)
  | (with_reducible first|refine gdtT ?_|refine gdtF ?_|refine gdfF ?_|refine gdfT ?_|refine gdu ?_ _|refine gdt_pos (by first|assumption|omega) ?_|refine gdt_neg (by first|assumption|omega) ?_|refine gdt_split (fun hg => ?_) (fun hg => ?_)|refine gdf_pos (by first|assumption|omega) ?_|refine gdf_neg (by first|assumption|omega) ?_|refine gdf_split (fun hg => ?_) (fun hg => ?_)|refine gdtn_pos (by first|assumption|omega) ?_|refine gdtn_neg (by first|assumption|omega) ?_|refine gdtn_split (fun hg => ?_) (fun hg => ?_)|refine gdfn_pos (by first|assumption|omega) ?_|refine gdfn_neg (by first|assumption|omega) ?_|refine gdfn_split (fun hg => ?_) (fun hg => ?_)|refine gdtbn_pos (by assumption) ?_|refine gdtbn_neg (by assumption) ?_|refine gdfbn_pos (by assumption) ?_|refine gdfbn_neg (by assumption) ?_|refine gdtb_pos (by assumption) ?_|refine gdtb_neg (by assumption) ?_|refine gdtb_split (fun hg => ?_) (fun hg => ?_)|refine gdfb_pos (by assumption) ?_|refine gdfb_neg (by assumption) ?_|refine gdfb_split (fun hg => ?_) (fun hg => ?_)|refine pickT ?_|refine pickF ?_|refine pick_pos (by first|assumption|omega) ?_|refine pick_neg (by first|assumption|omega) ?_|refine pickn_pos (by first|assumption|omega) ?_|refine pickn_neg (by first|assumption|omega) ?_|refine pickbn_pos (by assumption) ?_|refine pickbn_neg (by assumption) ?_|refine pickb_pos (by assumption) ?_|refine pickb_neg (by assumption) ?_|refine condT ?_|refine condF ?_|refine cond_pos (by first|assumption|omega) ?_|refine cond_neg (by first|assumption|omega) ?_|refine condM_dec (fun hg => ?_) (fun hg => ?_)|refine condn_pos (by first|assumption|omega) ?_|refine condn_neg (by first|assumption|omega) ?_|refine condM_ndec (fun hg => ?_) (fun hg => ?_)|refine condbn_pos (by assumption) ?_|refine condbn_neg (by assumption) ?_|refine condbn_split (fun hg => ?_) (fun hg => ?_)|refine condb_pos (by assumption) ?_|refine condb_neg (by assumption) ?_|refine condM_b (fun hg => ?_) (fun hg => ?_))
  | ((with_reducible refine oM_gen (fun Kv hK => ?_)); simp [go_sem, hr4]; (try simp (disch := omega) only [wrapI64, wrapU8, wrapU32, wrapU64]); (first | refine hK _ _ ?_ | refine And.intro (by omega) (hK _ _ ?_)); clear hK; clear Kv)))
  have t04 : Step w b h w4 h := (Step.fresh f2).trans t4
  have blt : b < w.heap.size := d.lt (.inl (.inl rfl))
  have hnown : ∀ i, Own b h i → i < w.heap.size := fun i hi => d.lt (.inl hi)
  have p4 := (t4.fr.block w.heap.size (by omega) (fun ho => by have := hnown _ ho; omega)).trans p2
  have c1 := d4.c 1
  simp only [dkCells] at c1
  repeat (any_goals (first
  | (with_reducible refine pureM_in ?_)
  | (with_reducible first|refine pureQ_in ?_|refine gdQ_conv (fun _ => ?_)|refine pickQT ?_|refine pickQF ?_|refine pickQ_pos (by first|assumption|omega) ?_|refine pickQ_neg (by first|assumption|omega) ?_|refine pickQn_pos (by first|assumption|omega) ?_|refine pickQn_neg (by first|assumption|omega) ?_) | ((with_reducible refine oQ_one ?_ ?_); exact ⟨_, rfl⟩) | (with_reducible first|refine And.intro (Eq.refl (α := World) _) ?_|refine forall_one ?_|refine oQ_nil ?_) | (with_reducible refine oQ_of ⟨_, rfl⟩ (fun W0 hW0 => by (refine oM_gen (fun Kv hK => ?_)); simp [go_sem]; (first | exact hK _ _ ⟨rfl, rfl⟩ | exact ⟨by omega, hK _ _ ⟨rfl, rfl⟩⟩)) ?_)
  | (with_reducible refine delete_ok (f := f) (by have := d4.wf.ql; omega) p4 d4.que ?_)
  | (with_reducible first|refine gdtT ?_|refine gdtF ?_|refine gdfF ?_|refine gdfT ?_|refine gdu ?_ _|refine gdt_pos (by first|assumption|omega) ?_|refine gdt_neg (by first|assumption|omega) ?_|refine gdt_split (fun hg => ?_) (fun hg => ?_)|refine gdf_pos (by first|assumption|omega) ?_|refine gdf_neg (by first|assumption|omega) ?_|refine gdf_split (fun hg => ?_) (fun hg => ?_)|refine gdtn_pos (by first|assumption|omega) ?_|refine gdtn_neg (by first|assumption|omega) ?_|refine gdtn_split (fun hg => ?_) (fun hg => ?_)|refine gdfn_pos (by first|assumption|omega) ?_|refine gdfn_neg (by first|assumption|omega) ?_|refine gdfn_split (fun hg => ?_) (fun hg => ?_)|refine gdtbn_pos (by assumption) ?_|refine gdtbn_neg (by assumption) ?_|refine gdfbn_pos (by assumption) ?_|refine gdfbn_neg (by assumption) ?_|refine gdtb_pos (by assumption) ?_|refine gdtb_neg (by assumption) ?_|refine gdtb_split (fun hg => ?_) (fun hg => ?_)|refine gdfb_pos (by assumption) ?_|refine gdfb_neg (by assumption) ?_|refine gdfb_split (fun hg => ?_) (fun hg => ?_)|refine pickT ?_|refine pickF ?_|refine pick_pos (by first|assumption|omega) ?_|refine pick_neg (by first|assumption|omega) ?_|refine pickn_pos (by first|assumption|omega) ?_|refine pickn_neg (by first|assumption|omega) ?_|refine pickbn_pos (by assumption) ?_|refine pickbn_neg (by assumption) ?_|refine pickb_pos (by assumption) ?_|refine pickb_neg (by assumption) ?_|refine condT ?_|refine condF ?_|refine cond_pos (by first|assumption|omega) ?_|refine cond_neg (by first|assumption|omega) ?_|refine condM_dec (fun hg => ?_) (fun hg => ?_)|refine condn_pos (by first|assumption|omega) ?_|refine condn_neg (by first|assumption|omega) ?_|refine condM_ndec (fun hg => ?_) (fun hg => ?_)|refine condbn_pos (by assumption) ?_|refine condbn_neg (by assumption) ?_|refine condbn_split (fun hg => ?_) (fun hg => ?_)|refine condb_pos (by assumption) ?_|refine condb_neg (by assumption) ?_|refine condM_b (fun hg => ?_) (fun hg => ?_))
  | ((with_reducible refine oM_gen (fun Kv hK => ?_)); simp [go_sem, c1]; (try simp (disch := omega) only [wrapI64, wrapU8, wrapU32, wrapU64]); (first | refine hK _ _ ?_ | refine And.intro (by omega) (hK _ _ ?_)); clear hK; clear Kv)))
  intro v' w5 ho5 f5 hv5
  obtain ⟨va, vc, rfl⟩ := owns_len ho5
  have hq4 : ∀ i, h.q.ownBlock = some i → i < w.heap.size := fun i hi => hnown i (.inr (.inr (.inr hi)))
  have k5 : ∀ i, i < w4.heap.size → h.q.ownBlock ≠ some i → w5.heap[i]? = w4.heap[i]? := fun i hi hn => f5.block i hi (fun e => hn e)
  have hz4 := t4.fr.size
  have hz5 := f5.size
  have hqb : h.q.ownBlock ≠ some b := fun e => (d4.qne e).1 rfl
  have hqf : h.q.ownBlock ≠ some h.fm := fun e => (d4.qne e).2.1 rfl
  have hqs : h.q.ownBlock ≠ some h.sm := fun e => (d4.qne e).2.2 rfl
  have b5 := (k5 b (by omega) hqb).trans d4.blk
  have p5 := (k5 w.heap.size (by omega) (fun e => by have := hq4 _ e; omega)).trans p4
  have e1 := cell_of_block b5 1
  have y1 := frozen_of_block b5 1
  have b6 := block_set (i := 1) b5 (.slice va (keepQ f A.queue).length vc)
  have e2 := cell_of_block b6 2
  simp [dkCells] at e1 e2
  repeat (any_goals (first
  | (with_reducible refine pureM_in ?_)
  | (with_reducible first|refine pureQ_in ?_|refine gdQ_conv (fun _ => ?_)|refine pickQT ?_|refine pickQF ?_|refine pickQ_pos (by first|assumption|omega) ?_|refine pickQ_neg (by first|assumption|omega) ?_|refine pickQn_pos (by first|assumption|omega) ?_|refine pickQn_neg (by first|assumption|omega) ?_) | ((with_reducible refine oQ_one ?_ ?_); exact ⟨_, rfl⟩) | (with_reducible first|refine And.intro (Eq.refl (α := World) _) ?_|refine forall_one ?_|refine oQ_nil ?_) | (with_reducible refine oQ_of ⟨_, rfl⟩ (fun W0 hW0 => by (refine oM_gen (fun Kv hK => ?_)); simp [go_sem]; (first | exact hK _ _ ⟨rfl, rfl⟩ | exact ⟨by omega, hK _ _ ⟨rfl, rfl⟩⟩)) ?_)
  | (with_reducible first|refine gdtT ?_|refine gdtF ?_|refine gdfF ?_|refine gdfT ?_|refine gdu ?_ _|refine gdt_pos (by first|assumption|omega) ?_|refine gdt_neg (by first|assumption|omega) ?_|refine gdt_split (fun hg => ?_) (fun hg => ?_)|refine gdf_pos (by first|assumption|omega) ?_|refine gdf_neg (by first|assumption|omega) ?_|refine gdf_split (fun hg => ?_) (fun hg => ?_)|refine gdtn_pos (by first|assumption|omega) ?_|refine gdtn_neg (by first|assumption|omega) ?_|refine gdtn_split (fun hg => ?_) (fun hg => ?_)|refine gdfn_pos (by first|assumption|omega) ?_|refine gdfn_neg (by first|assumption|omega) ?_|refine gdfn_split (fun hg => ?_) (fun hg => ?_)|refine gdtbn_pos (by assumption) ?_|refine gdtbn_neg (by assumption) ?_|refine gdfbn_pos (by assumption) ?_|refine gdfbn_neg (by assumption) ?_|refine gdtb_pos (by assumption) ?_|refine gdtb_neg (by assumption) ?_|refine gdtb_split (fun hg => ?_) (fun hg => ?_)|refine gdfb_pos (by assumption) ?_|refine gdfb_neg (by assumption) ?_|refine gdfb_split (fun hg => ?_) (fun hg => ?_)|refine pickT ?_|refine pickF ?_|refine pick_pos (by first|assumption|omega) ?_|refine pick_neg (by first|assumption|omega) ?_|refine pickn_pos (by first|assumption|omega) ?_|refine pickn_neg (by first|assumption|omega) ?_|refine pickbn_pos (by assumption) ?_|refine pickbn_neg (by assumption) ?_|refine pickb_pos (by assumption) ?_|refine pickb_neg (by assumption) ?_|refine condT ?_|refine condF ?_|refine cond_pos (by first|assumption|omega) ?_|refine cond_neg (by first|assumption|omega) ?_|refine condM_dec (fun hg => ?_) (fun hg => ?_)|refine condn_pos (by first|assumption|omega) ?_|refine condn_neg (by first|assumption|omega) ?_|refine condM_ndec (fun hg => ?_) (fun hg => ?_)|refine condbn_pos (by assumption) ?_|refine condbn_neg (by assumption) ?_|refine condbn_split (fun hg => ?_) (fun hg => ?_)|refine condb_pos (by assumption) ?_|refine condb_neg (by assumption) ?_|refine condM_b (fun hg => ?_) (fun hg => ?_))
  | ((with_reducible refine oM_gen (fun Kv hK => ?_)); simp [go_sem, e1, y1, e2]; (try simp (disch := omega) only [wrapI64, wrapU8, wrapU32, wrapU64]); (first | refine hK _ _ ?_ | refine And.intro (by omega) (hK _ _ ?_)); clear hK; clear Kv)))
  have k6 : ∀ i, i ≠ b → (w5.setCell ⟨b, 1, none⟩ (.slice va (keepQ f A.queue).length vc)).heap[i]? = w5.heap[i]? := fun i hi => setCell_heap_ne _ _ _ _ hi
  have z6 := grown_setCell w5 ⟨b, 1, none⟩ (.slice va (keepQ f A.queue).length vc)
  have zz6 : (w5.setCell ⟨b, 1, none⟩ (.slice va (keepQ f A.queue).length vc)).heap.size = w5.heap.size := by simp [World.setCell]
  generalize w5.setCell ⟨b, 1, none⟩ (.slice va (keepQ f A.queue).length vc) = w6 at *
  have p6 := (k6 w.heap.size (by omega)).trans p5
  have hsm4 : h.sm < w.heap.size := hnown _ (.inr (.inr (.inl rfl)))
  have hfm4 : h.fm < w.heap.size := hnown _ (.inr (.inl rfl))
  obtain ⟨ls, ms, hls⟩ := d4.set
  have m6 : MapIs secV w6 h.sm ls := ms.of_block ((k6 _ d4.bsm.symm).trans (k5 _ (by omega) hqs))
  refine deleteMap_ok (f := f) p6 m6 (fun w7 m7 f7 => ?_)
  have k7 : ∀ i, i < w4.heap.size → i ≠ h.sm → w7.heap[i]? = w6.heap[i]? := fun i hi hn => f7.block i (by omega) hn
  have hvn : ∀ i, (Value.slice va (keepQ f A.queue).length vc).ownBlock = some i → i ≠ b ∧ i ≠ h.sm ∧ i < w.heap.size := fun i hi => ⟨(d4.qne (hv5 i hi)).1, (d4.qne (hv5 i hi)).2.2, hq4 i (hv5 i hi)⟩
  refine k w7 { h with q := .slice va (keepQ f A.queue).length vc } ⟨?_, ?_, ?_, ?_, ?_, d.ne, settleA_wf d.wf f s hs⟩ ⟨?_, ?_, fun i hi => .inl hi⟩
  · rw [k7 b (by omega) d4.bsm, b6]; rfl
  · obtain ⟨l, m, hl⟩ := d4.files
    exact ⟨l, m.of_block (by rw [k7 _ (by omega) d4.ne, k6 _ d4.bfm.symm, k5 _ (by omega) hqf]), hl⟩
  · refine ⟨_, m7, fun p => ?_⟩
    rw [lookA_filter (fun p : Int × Int => decide (p.1 ≠ f)), hls]
    show _ = if p ∈ A.queue.filter (fun p => decide (p.1 ≠ f)) then _ else _
    by_cases hp : p.1 = f
    · simp [hp]
    · simp [hp]
  · exact owns_keep ho5 (fun i hi => by
      have := hvn i hi
      rw [k7 i (by omega) this.2.1, k6 i this.1])
  · refine owns_keep d4.kep (fun i hi => ?_)
    have h1 := d4.kne hi
    have h2 := d4.lt (.inr hi)
    rw [k7 i h2 h1.2.2.1, k6 i h1.1, k5 i h2 h1.2.2.2]
  · have fA : Fr (Own b h) w w5 := t04.fr.trans f5 (fun i hi => .inl (.inr (.inr (.inr hi))))
    have fB : Fr (Own b h) w w6 := fA.by z6 (fun i hi => by cases hi; exact .inl (.inl rfl))
    exact fB.trans f7 (fun i hi => .inl (.inr (.inr (.inl hi))))
  · rintro i (rfl | rfl | rfl | hi)
    · exact .inl (.inl rfl)
    · exact .inl (.inr (.inl rfl))
    · exact .inl (.inr (.inr (.inl rfl)))
    · exact .inl (.inr (.inr (.inr (hv5 i hi))))
end
end Go.Proofs
