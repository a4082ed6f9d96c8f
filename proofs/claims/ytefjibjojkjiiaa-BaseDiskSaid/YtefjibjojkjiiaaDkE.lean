/- DkE: a part of the proof of the seat's statements: lemmas about the given translation and plain laws. No condition of its own. -/
--Q
import Derived.Test.YtefjibjojkjiiaaDkD
set_option linter.all false
namespace Go.Proofs
open Go Go.Sh Go.RowKit DkSpec
set_option linter.unusedSimpArgs false
set_option maxRecDepth 10000
section
variable {w : World} {b : Nat} {A : Ab} {h : Dk} {K : Value → World → Prop}
theorem cell_heap {w w' : World} (h : w'.heap = w.heap) (a : Addr) : w'.cell? a = w.cell? a := by
  unfold World.cell?; rw [h]
theorem frozen_heap {w w' : World} (h : w'.heap = w.heap) (a : Addr) : w'.frozen? a = w.frozen? a := by
  unfold World.frozen?; rw [h]
theorem IsDk.heap {w' : World} (d : IsDk w b A h) (e : w'.heap = w.heap) : IsDk w' b A h := d.keep (fun i _ => by rw [e])
/-- a step that touches only new blocks -/
theorem IsDk.fresh {w' : World} (d : IsDk w b A h) (f : Fr (fun _ => False) w w') : IsDk w' b A h := d.keep (fun i hi => f.block i (d.lt hi) (fun h => h))
theorem Step.fresh {w' : World} (f : Fr (fun _ => False) w w') : Step w b h w' h := ⟨f.mono (fun _ _ h => h.elim), fun _ h => .inl h, fun _ h => .inl h⟩
def secsFrom (n m : Nat) : List Int := (List.range' n (m + 1 - n)).map Int.ofNat
theorem secsFrom_le {n m : Nat} (h : n ≤ m) : secsFrom n m = (n : Int) :: secsFrom (n + 1) m := by
  unfold secsFrom
  have e : m + 1 - n = (m + 1 - (n + 1)) + 1 := by omega
  rw [e, List.range'_succ]
  rfl
theorem secsFrom_gt {n m : Nat} (h : m < n) : secsFrom n m = [] := by
  unfold secsFrom
  have e : m + 1 - n = 0 := by omega
  rw [e]
  rfl
/-- a new sector -/
theorem push_wf (hw : WF A) {f n : Int} (hf : 0 ≤ f ∧ f < 16) (hn : 0 ≤ n ∧ n < 262144) (hq : (f, n) ∉ A.queue) : WF { A with queue := A.queue ++ [(f, n)] } := by
  refine ⟨hw.l0, hw.l1, hw.a0, hw.a1, ?_, ?_, hw.sz, hw.kr, hw.kl⟩
  · show (A.queue ++ [(f, n)]).Nodup
    rw [List.nodup_append]
    refine ⟨hw.nd, by simp, ?_⟩
    intro a ha c hc
    simp only [List.mem_singleton] at hc
    subst hc
    rintro rfl
    exact hq ha
  · intro p hp
    rcases List.mem_append.1 hp with hp | hp
    · exact hw.qr p hp
    · simp only [List.mem_singleton] at hp
      subst hp
      exact ⟨hf.1, hf.2, hn.1, hn.2⟩
theorem IsDk.lookS (d : IsDk w b A h) (p : Int × Int) : (Instr.lookup 51 (.map (some h.sm)) (.agg #[.int .i64 p.1, .int .i64 p.2]) false).run Try.prog w = .ok (.bool (decide (p ∈ A.queue))) w := by
  obtain ⟨l, hl, h2⟩ := d.set
  have := run_lookup (P := Try.prog) (t := 51) (et := 4) (z := .bool false) keyS (by kernel_rfl) (fun w => by kernel_rfl) hl p
  rw [h2] at this
  unfold secV at this
  rw [this]
  by_cases hp : p ∈ A.queue <;> simp [hp]
theorem IsDk.setFile (d : IsDk w b A h) (f : Int) (x : Bs × Bs) (hx : x.1.length ≤ 16777216 ∧ x.2.length ≤ 16777216) : ∃ w', (Instr.mapUpdate 50 (.map (some h.fm)) (.int .i64 f) (.agg #[.string ⟨x.1.toArray⟩, .string ⟨x.2.toArray⟩])).run Try.prog w = .ok () w' ∧ IsDk w' b { A with F := setF A.F f x } h ∧ Step w b h w' h := by
  obtain ⟨l, m, hl⟩ := d.files
  obtain ⟨w', hr, m', g, z⟩ := run_update (P := Try.prog) (t := 50) (et := 62) keyI (by kernel_rfl) m f (flV x)
  have hne : ∀ i, i < w.heap.size → i ≠ h.fm → w'.heap[i]? = w.heap[i]? := fun i hi hn => g.block i hi (fun e => hn (by cases e; rfl))
  refine ⟨w', hr, ⟨?_, ⟨_, m', ?_⟩, ?_, ?_, ?_, d.ne, ?_⟩, ⟨(Fr.refl _ _).by g (fun i hi => by cases hi; exact .inl (.inr (.inl rfl))), fun _ h => .inl h, fun _ h => .inl h⟩⟩
  · rw [hne b (d.lt (.inl (.inl rfl))) d.bfm]; exact d.blk
  · intro g
    rw [lookA_put]
    show _ = flV (setF A.F f x g)
    by_cases hg : g = f
    · subst hg
      rw [if_pos rfl, setF_same]; rfl
    · rw [if_neg hg, setF_ne _ _ _ _ hg]; exact hl g
  · obtain ⟨ls, ms, hs⟩ := d.set
    exact ⟨ls, ms.of_block (hne _ ms.lt (Ne.symm d.ne)), hs⟩
  · exact owns_keep d.que (fun i hi => hne i (d.lt (.inl (.inr (.inr (.inr hi))))) (d.qne hi).2.1)
  · exact owns_keep d.kep (fun i hi => hne i (d.lt (.inr hi)) (d.kne hi).2.1)
  · refine ⟨d.wf.l0, d.wf.l1, d.wf.a0, d.wf.a1, d.wf.nd, d.wf.qr, ?_, d.wf.kr, d.wf.kl⟩
    intro g
    show (setF A.F f x g).1.length ≤ _ ∧ (setF A.F f x g).2.length ≤ _
    by_cases hg : g = f
    · subst hg; rw [setF_same]; exact hx
    · rw [setF_ne _ _ _ _ hg]; exact d.wf.sz g
theorem push_done {w9 w10 w13 : World} {p : Int × Int} {v' : Value} {ls : List ((Int × Int) × Value)} (d9 : IsDk w9 b A h) (hg10 : w9.grownBy w10 h.q.ownBlock) (ho : w10.ownsRow 0 69 2 v' (A.queue.length + 1) (flat secC A.queue ++ secC p)) (hv : ∀ i, v'.ownBlock = some i → h.q.ownBlock = some i ∨ w9.heap.size ≤ i)
    (m13 : MapIs secV w13 h.sm (putA ls p (.bool true))) (hls : ∀ p, lookA ls p = if p ∈ A.queue then some (.bool true) else none) (g13 : (w10.setCell ⟨b, 1, none⟩ v').grownBy w13 (some h.sm)) (hwf : WF { A with queue := A.queue ++ [p] }) :
    IsDk w13 b { A with queue := A.queue ++ [p] } { h with q := v' } ∧ Step w9 b h w13 { h with q := v' } := by
  have hs10 := hg10.size
  have hb9 := d9.lt (.inl (.inl rfl))
  have hf9 : h.fm < w9.heap.size := d9.lt (.inl (.inr (.inl rfl)))
  have hsm9 : h.sm < w9.heap.size := d9.lt (.inl (.inr (.inr (.inl rfl))))
  have k10 : ∀ i, i < w9.heap.size → h.q.ownBlock ≠ some i → w10.heap[i]? = w9.heap[i]? := fun i hi hn => hg10.block i hi (fun e => hn e.symm)
  have hsz11 : (w10.setCell ⟨b, 1, none⟩ v').heap.size = w10.heap.size := by simp [World.setCell]
  have k13 : ∀ i, i < w10.heap.size → i ≠ h.sm → i ≠ b → w13.heap[i]? = w10.heap[i]? := fun i hi hn hb => by
    rw [g13.block i (by rw [hsz11]; exact hi) (fun e => hn (by cases e; rfl)), setCell_heap_ne _ _ _ _ hb]
  have hqb : h.q.ownBlock ≠ some b := fun e => (d9.qne e).1 rfl
  have hqf : h.q.ownBlock ≠ some h.fm := fun e => (d9.qne e).2.1 rfl
  have hqs : h.q.ownBlock ≠ some h.sm := fun e => (d9.qne e).2.2 rfl
  have hvne : ∀ i, v'.ownBlock = some i → i ≠ b ∧ i ≠ h.sm := fun i hi => by
    rcases hv i hi with e | e
    · exact ⟨(d9.qne e).1, (d9.qne e).2.2⟩
    · omega
  refine ⟨⟨?_, ?_, ?_, ?_, ?_, d9.ne, hwf⟩, ⟨?_, ?_, fun i hi => .inl hi⟩⟩
  · have hb10 := k10 b hb9 hqb
    rw [d9.blk] at hb10
    rw [g13.block b (by rw [hsz11]; omega) (fun e => d9.bsm (by cases e; rfl)), block_set hb10]
    rfl
  · obtain ⟨l, m, hl⟩ := d9.files
    refine ⟨l, m.of_block ?_, hl⟩
    rw [k13 _ (by omega) d9.ne d9.bfm.symm, k10 _ hf9 hqf]
  · refine ⟨_, m13, fun r => ?_⟩
    rw [lookA_put, hls]
    by_cases hr : r = p
    · subst hr; simp
    · simp [hr]
  · show w13.ownsRow 0 _ 2 v' (A.queue ++ [p]).length (flat secC (A.queue ++ [p]))
    rw [flat_snoc, List.length_append]
    exact owns_keep ho (fun i hi => k13 i (owns_own ho hi).1 (hvne i hi).2 (hvne i hi).1)
  · refine owns_keep d9.kep (fun i hi => ?_)
    have hi' := d9.lt (.inr hi)
    have := d9.kne hi
    rw [k13 i (by omega) this.2.2.1 this.1, k10 i hi' this.2.2.2]
  · refine (((Fr.refl _ _).by hg10 (fun i hi => .inl (.inr (.inr (.inr hi))))).set ⟨b, 1, none⟩ v' (.inl (.inl rfl))).by g13 (fun i hi => ?_)
    cases hi
    exact .inl (.inr (.inr (.inl rfl)))
  · rintro i (rfl | rfl | rfl | hi)
    · exact .inl (.inl rfl)
    · exact .inl (.inr (.inl rfl))
    · exact .inl (.inr (.inr (.inl rfl)))
    · exact (hv i hi).imp (fun e => .inr (.inr (.inr e))) id

set_option maxHeartbeats 1000000 in
theorem write_ok (d : IsDk w b A h) (f at_ : Int) (s : Bs) (hs : s.length < 2 ^ 60) (hat : -2 ^ 63 ≤ at_ ∧ at_ < 2 ^ 63) (k : ∀ w' h', IsDk w' b (wrA A f at_ s).2 h' → Step w b h w' h' → K (.int .i64 (wrA A f at_ s).1) w') : callM Try.prog 48 #[dkP b, .int .i64 f, .int .i64 at_, bsV s] K w := by
  apply sh_48_ok
  unfold sh_48
  refine may_ok d f ?_
  have k' : ∀ r A', wrA A f at_ s = (r, A') → ∀ w' h', IsDk w' b A' h' → Step w b h w' h' → K (.int .i64 r) w' := by
    intro r A' e w' h' h1 h2
    have := k w' h' (by rw [e]; exact h1) h2
    rw [e] at this
    exact this
  clear k
  unfold wrA at k'
  have c0 := d.c 0
  simp only [dkCells] at c0
  have hl := d.look f
  unfold dkP bsV
  repeat (any_goals (first
  | (with_reducible refine pureM_in ?_)
  | (with_reducible first|refine pureQ_in ?_|refine gdQ_conv (fun _ => ?_)|refine pickQT ?_|refine pickQF ?_|refine pickQ_pos (by first|assumption|omega) ?_|refine pickQ_neg (by first|assumption|omega) ?_|refine pickQn_pos (by first|assumption|omega) ?_|refine pickQn_neg (by first|assumption|omega) ?_) | ((with_reducible refine oQ_one ?_ ?_); exact ⟨_, rfl⟩) | (with_reducible first|refine And.intro (Eq.refl (α := World) _) ?_|refine forall_one ?_|refine oQ_nil ?_) | (with_reducible refine oQ_of ⟨_, rfl⟩ (fun W0 hW0 => by (refine oM_gen (fun Kv hK => ?_)); simp [go_sem]; (first | exact hK _ _ ⟨rfl, rfl⟩ | exact ⟨by omega, hK _ _ ⟨rfl, rfl⟩⟩)) ?_)
  | (with_reducible first|refine gdtT ?_|refine gdtF ?_|refine gdfF ?_|refine gdfT ?_|refine gdu ?_ _|refine gdt_pos (by first|assumption|omega) ?_|refine gdt_neg (by first|assumption|omega) ?_|refine gdt_split (fun hg => ?_) (fun hg => ?_)|refine gdf_pos (by first|assumption|omega) ?_|refine gdf_neg (by first|assumption|omega) ?_|refine gdf_split (fun hg => ?_) (fun hg => ?_)|refine gdtn_pos (by first|assumption|omega) ?_|refine gdtn_neg (by first|assumption|omega) ?_|refine gdtn_split (fun hg => ?_) (fun hg => ?_)|refine gdfn_pos (by first|assumption|omega) ?_|refine gdfn_neg (by first|assumption|omega) ?_|refine gdfn_split (fun hg => ?_) (fun hg => ?_)|refine gdtbn_pos (by assumption) ?_|refine gdtbn_neg (by assumption) ?_|refine gdfbn_pos (by assumption) ?_|refine gdfbn_neg (by assumption) ?_|refine gdtb_pos (by assumption) ?_|refine gdtb_neg (by assumption) ?_|refine gdtb_split (fun hg => ?_) (fun hg => ?_)|refine gdfb_pos (by assumption) ?_|refine gdfb_neg (by assumption) ?_|refine gdfb_split (fun hg => ?_) (fun hg => ?_)|refine pickT ?_|refine pickF ?_|refine pick_pos (by first|assumption|omega) ?_|refine pick_neg (by first|assumption|omega) ?_|refine pickn_pos (by first|assumption|omega) ?_|refine pickn_neg (by first|assumption|omega) ?_|refine pickbn_pos (by assumption) ?_|refine pickbn_neg (by assumption) ?_|refine pickb_pos (by assumption) ?_|refine pickb_neg (by assumption) ?_|refine condT ?_|refine condF ?_|refine cond_pos (by first|assumption|omega) ?_|refine cond_neg (by first|assumption|omega) ?_|refine condM_dec (fun hg => ?_) (fun hg => ?_)|refine condn_pos (by first|assumption|omega) ?_|refine condn_neg (by first|assumption|omega) ?_|refine condM_ndec (fun hg => ?_) (fun hg => ?_)|refine condbn_pos (by assumption) ?_|refine condbn_neg (by assumption) ?_|refine condbn_split (fun hg => ?_) (fun hg => ?_)|refine condb_pos (by assumption) ?_|refine condb_neg (by assumption) ?_|refine condM_b (fun hg => ?_) (fun hg => ?_))
  | ((with_reducible refine oM_gen (fun Kv hK => ?_)); simp [go_sem, c0, hl, flV, bsV]; (try simp (disch := omega) only [wrapI64, wrapU8, wrapU32, wrapU64]); (first | refine hK _ _ ?_ | refine And.intro (by omega) (hK _ _ ?_)); clear hK; clear Kv)))
  · rename_i hm
    exact k' 1 A (by rw [if_neg (by omega), if_pos hg]) w h d (Step.refl _ _ _)
  · rename_i hm h1
    exact k' 6 A (by rw [if_neg (by omega), if_neg h1, if_pos (by omega)]) w h d (Step.refl _ _ _)
  · rename_i hm h1 h2
    exact k' 6 A (by rw [if_neg (by omega), if_neg h1, if_pos (by omega)]) w h d (Step.refl _ _ _)
  · rename_i hm h1 h2 h3
    exact k' 0 A (by rw [if_neg (by omega), if_neg h1, if_neg (by omega), hg]; rfl) w h d (Step.refl _ _ _)
  · rename_i hm h1 h2 h3
    have hmay := mayA_ok hm
    have hsne : ¬ s = [] := hg
    have k0 := k' 0 (addA A f at_.toNat s) (by rw [if_neg (by omega), if_neg h1, if_neg (by omega)])
    clear k'
    obtain ⟨a, rfl⟩ := Int.eq_ofNat_of_zero_le (by omega : 0 ≤ at_)
    rw [Int.toNat_natCast] at k0
    have hlen : 0 < s.length := List.length_pos_iff.2 hg
    have hn := heap_alloc_new w (.cells #[bsV (A.F f).1, bsV (A.F f).2] 62 (0, 0))
    have f0 : Fr (fun _ => False) w (w.alloc (.cells #[bsV (A.F f).1, bsV (A.F f).2] 62 (0, 0))) := (Fr.refl _ _).alloc _
    have z0 := alloc_size w (.cells #[bsV (A.F f).1, bsV (A.F f).2] 62 (0, 0))
    simp only [bsV] at hn f0 z0
    generalize w.alloc (.cells #[.string ⟨(A.F f).1.toArray⟩, .string ⟨(A.F f).2.toArray⟩] 62 (0, 0)) = w0 at *
    have e0 := cell_of_block hn 0
    simp at e0
    repeat (any_goals (first
    | (with_reducible refine pureM_in ?_)
    | (with_reducible first|refine pureQ_in ?_|refine gdQ_conv (fun _ => ?_)|refine pickQT ?_|refine pickQF ?_|refine pickQ_pos (by first|assumption|omega) ?_|refine pickQ_neg (by first|assumption|omega) ?_|refine pickQn_pos (by first|assumption|omega) ?_|refine pickQn_neg (by first|assumption|omega) ?_) | ((with_reducible refine oQ_one ?_ ?_); exact ⟨_, rfl⟩) | (with_reducible first|refine And.intro (Eq.refl (α := World) _) ?_|refine forall_one ?_|refine oQ_nil ?_) | (with_reducible refine oQ_of ⟨_, rfl⟩ (fun W0 hW0 => by (refine oM_gen (fun Kv hK => ?_)); simp [go_sem]; (first | exact hK _ _ ⟨rfl, rfl⟩ | exact ⟨by omega, hK _ _ ⟨rfl, rfl⟩⟩)) ?_)
    | (with_reducible refine put_ok' (A.F f).1 s (a : Int) (by omega) (by omega) (d.wf.sz f).1 ?_)
    | (with_reducible first|refine gdtT ?_|refine gdtF ?_|refine gdfF ?_|refine gdfT ?_|refine gdu ?_ _|refine gdt_pos (by first|assumption|omega) ?_|refine gdt_neg (by first|assumption|omega) ?_|refine gdt_split (fun hg => ?_) (fun hg => ?_)|refine gdf_pos (by first|assumption|omega) ?_|refine gdf_neg (by first|assumption|omega) ?_|refine gdf_split (fun hg => ?_) (fun hg => ?_)|refine gdtn_pos (by first|assumption|omega) ?_|refine gdtn_neg (by first|assumption|omega) ?_|refine gdtn_split (fun hg => ?_) (fun hg => ?_)|refine gdfn_pos (by first|assumption|omega) ?_|refine gdfn_neg (by first|assumption|omega) ?_|refine gdfn_split (fun hg => ?_) (fun hg => ?_)|refine gdtbn_pos (by assumption) ?_|refine gdtbn_neg (by assumption) ?_|refine gdfbn_pos (by assumption) ?_|refine gdfbn_neg (by assumption) ?_|refine gdtb_pos (by assumption) ?_|refine gdtb_neg (by assumption) ?_|refine gdtb_split (fun hg => ?_) (fun hg => ?_)|refine gdfb_pos (by assumption) ?_|refine gdfb_neg (by assumption) ?_|refine gdfb_split (fun hg => ?_) (fun hg => ?_)|refine pickT ?_|refine pickF ?_|refine pick_pos (by first|assumption|omega) ?_|refine pick_neg (by first|assumption|omega) ?_|refine pickn_pos (by first|assumption|omega) ?_|refine pickn_neg (by first|assumption|omega) ?_|refine pickbn_pos (by assumption) ?_|refine pickbn_neg (by assumption) ?_|refine pickb_pos (by assumption) ?_|refine pickb_neg (by assumption) ?_|refine condT ?_|refine condF ?_|refine cond_pos (by first|assumption|omega) ?_|refine cond_neg (by first|assumption|omega) ?_|refine condM_dec (fun hg => ?_) (fun hg => ?_)|refine condn_pos (by first|assumption|omega) ?_|refine condn_neg (by first|assumption|omega) ?_|refine condM_ndec (fun hg => ?_) (fun hg => ?_)|refine condbn_pos (by assumption) ?_|refine condbn_neg (by assumption) ?_|refine condbn_split (fun hg => ?_) (fun hg => ?_)|refine condb_pos (by assumption) ?_|refine condb_neg (by assumption) ?_|refine condM_b (fun hg => ?_) (fun hg => ?_))
    | ((with_reducible refine oM_gen (fun Kv hK => ?_)); simp [go_sem, e0]; (try simp (disch := omega) only [wrapI64, wrapU8, wrapU32, wrapU64]); (first | refine hK _ _ ?_ | refine And.intro (by omega) (hK _ _ ?_)); clear hK; clear Kv)))
    intro w1 g1
    have f1 := f0.trans g1 (fun _ h => h.elim)
    have z1 := g1.size
    have hn1 := (g1.block w.heap.size (by omega) (fun h => h)).trans hn
    have y0 := frozen_of_block hn1 0
    have e1 := cell_of_block hn1 0
    simp at e1
    have hn2 := block_set (i := 0) hn1 (bsV (putB (A.F f).1 a s))
    unfold bsV at hn2
    repeat (any_goals (first
    | (with_reducible refine pureM_in ?_)
    | (with_reducible first|refine pureQ_in ?_|refine gdQ_conv (fun _ => ?_)|refine pickQT ?_|refine pickQF ?_|refine pickQ_pos (by first|assumption|omega) ?_|refine pickQ_neg (by first|assumption|omega) ?_|refine pickQn_pos (by first|assumption|omega) ?_|refine pickQn_neg (by first|assumption|omega) ?_) | ((with_reducible refine oQ_one ?_ ?_); exact ⟨_, rfl⟩) | (with_reducible first|refine And.intro (Eq.refl (α := World) _) ?_|refine forall_one ?_|refine oQ_nil ?_) | (with_reducible refine oQ_of ⟨_, rfl⟩ (fun W0 hW0 => by (refine oM_gen (fun Kv hK => ?_)); simp [go_sem]; (first | exact hK _ _ ⟨rfl, rfl⟩ | exact ⟨by omega, hK _ _ ⟨rfl, rfl⟩⟩)) ?_)
    | (with_reducible first|refine gdtT ?_|refine gdtF ?_|refine gdfF ?_|refine gdfT ?_|refine gdu ?_ _|refine gdt_pos (by first|assumption|omega) ?_|refine gdt_neg (by first|assumption|omega) ?_|refine gdt_split (fun hg => ?_) (fun hg => ?_)|refine gdf_pos (by first|assumption|omega) ?_|refine gdf_neg (by first|assumption|omega) ?_|refine gdf_split (fun hg => ?_) (fun hg => ?_)|refine gdtn_pos (by first|assumption|omega) ?_|refine gdtn_neg (by first|assumption|omega) ?_|refine gdtn_split (fun hg => ?_) (fun hg => ?_)|refine gdfn_pos (by first|assumption|omega) ?_|refine gdfn_neg (by first|assumption|omega) ?_|refine gdfn_split (fun hg => ?_) (fun hg => ?_)|refine gdtbn_pos (by assumption) ?_|refine gdtbn_neg (by assumption) ?_|refine gdfbn_pos (by assumption) ?_|refine gdfbn_neg (by assumption) ?_|refine gdtb_pos (by assumption) ?_|refine gdtb_neg (by assumption) ?_|refine gdtb_split (fun hg => ?_) (fun hg => ?_)|refine gdfb_pos (by assumption) ?_|refine gdfb_neg (by assumption) ?_|refine gdfb_split (fun hg => ?_) (fun hg => ?_)|refine pickT ?_|refine pickF ?_|refine pick_pos (by first|assumption|omega) ?_|refine pick_neg (by first|assumption|omega) ?_|refine pickn_pos (by first|assumption|omega) ?_|refine pickn_neg (by first|assumption|omega) ?_|refine pickbn_pos (by assumption) ?_|refine pickbn_neg (by assumption) ?_|refine pickb_pos (by assumption) ?_|refine pickb_neg (by assumption) ?_|refine condT ?_|refine condF ?_|refine cond_pos (by first|assumption|omega) ?_|refine cond_neg (by first|assumption|omega) ?_|refine condM_dec (fun hg => ?_) (fun hg => ?_)|refine condn_pos (by first|assumption|omega) ?_|refine condn_neg (by first|assumption|omega) ?_|refine condM_ndec (fun hg => ?_) (fun hg => ?_)|refine condbn_pos (by assumption) ?_|refine condbn_neg (by assumption) ?_|refine condbn_split (fun hg => ?_) (fun hg => ?_)|refine condb_pos (by assumption) ?_|refine condb_neg (by assumption) ?_|refine condM_b (fun hg => ?_) (fun hg => ?_))
    | ((with_reducible refine oM_gen (fun Kv hK => ?_)); simp [go_sem, y0, e1, bsV]; (try simp (disch := omega) only [wrapI64, wrapU8, wrapU32, wrapU64]); (first | refine hK _ _ ?_ | refine And.intro (by omega) (hK _ _ ?_)); clear hK; clear Kv)))
    have f2 := f1.set ⟨w.heap.size, 0, none⟩ (.string ⟨(putB (A.F f).1 a s).toArray⟩) (.inr (Nat.le_refl _))
    generalize w1.setCell ⟨w.heap.size, 0, none⟩ (.string ⟨(putB (A.F f).1 a s).toArray⟩) = w2 at *
    have d2 := d.fresh f2
    have c20 := d2.c 0
    simp only [dkCells] at c20
    have e20 := cell_of_block hn2 0
    have e21 := cell_of_block hn2 1
    simp at e20 e21
    refine ⟨fun s w' => s ≤ 0 → w'.heap = w2.heap, fun _ => rfl, ?_⟩
    repeat (first | (with_reducible refine pureH_in ?_) | (with_reducible refine oH_nil ?_) | (with_reducible refine gdH_true rfl ?_) | (with_reducible refine gdH_false rfl ?_) | (refine oH_of ⟨_, rfl⟩ (fun W0 hW0 => by (obtain ⟨s0, hs0, hC⟩ := hW0); (refine oM_gen (fun Kv hK => ?_)); simp [go_sem, cell_heap (hC (by omega)), c20, e20, e21]; (first | exact hK _ _ ⟨rfl, rfl⟩ | exact ⟨by omega, hK _ _ ⟨rfl, rfl⟩⟩)) ?_))
    generalize hw3 : ({ w2 with drawn := w2.drawn + 1 } : World) = w3
    have d3 : IsDk w3 b A h := d2.heap (by rw [← hw3])
    have f3 : Fr (fun _ => False) w w3 := by rw [← hw3]; exact f2.drew
    have hpl := putB_length (A.F f).1 a s
    rw [if_neg hg] at hpl
    obtain ⟨w4, hr4, d4, t4⟩ := d3.setFile f (putB (A.F f).1 a s, (A.F f).2) ⟨by show List.length (putB _ _ _) ≤ _; rw [hpl]; have := (d.wf.sz f).1; omega, (d.wf.sz f).2⟩
    simp only at hr4
    have t04 : Step w b h w4 h := (Step.fresh f3).trans t4
    repeat (any_goals (first
    | (with_reducible refine pureM_in ?_)
    | (with_reducible first|refine pureQ_in ?_|refine gdQ_conv (fun _ => ?_)|refine pickQT ?_|refine pickQF ?_|refine pickQ_pos (by first|assumption|omega) ?_|refine pickQ_neg (by first|assumption|omega) ?_|refine pickQn_pos (by first|assumption|omega) ?_|refine pickQn_neg (by first|assumption|omega) ?_) | ((with_reducible refine oQ_one ?_ ?_); exact ⟨_, rfl⟩) | (with_reducible first|refine And.intro (Eq.refl (α := World) _) ?_|refine forall_one ?_|refine oQ_nil ?_) | (with_reducible refine oQ_of ⟨_, rfl⟩ (fun W0 hW0 => by (refine oM_gen (fun Kv hK => ?_)); simp [go_sem]; (first | exact hK _ _ ⟨rfl, rfl⟩ | exact ⟨by omega, hK _ _ ⟨rfl, rfl⟩⟩)) ?_)
    | (with_reducible refine And.intro (fun hs => absurd hs (by decide)) ?_)
    | (with_reducible first|refine gdtT ?_|refine gdtF ?_|refine gdfF ?_|refine gdfT ?_|refine gdu ?_ _|refine gdt_pos (by first|assumption|omega) ?_|refine gdt_neg (by first|assumption|omega) ?_|refine gdt_split (fun hg => ?_) (fun hg => ?_)|refine gdf_pos (by first|assumption|omega) ?_|refine gdf_neg (by first|assumption|omega) ?_|refine gdf_split (fun hg => ?_) (fun hg => ?_)|refine gdtn_pos (by first|assumption|omega) ?_|refine gdtn_neg (by first|assumption|omega) ?_|refine gdtn_split (fun hg => ?_) (fun hg => ?_)|refine gdfn_pos (by first|assumption|omega) ?_|refine gdfn_neg (by first|assumption|omega) ?_|refine gdfn_split (fun hg => ?_) (fun hg => ?_)|refine gdtbn_pos (by assumption) ?_|refine gdtbn_neg (by assumption) ?_|refine gdfbn_pos (by assumption) ?_|refine gdfbn_neg (by assumption) ?_|refine gdtb_pos (by assumption) ?_|refine gdtb_neg (by assumption) ?_|refine gdtb_split (fun hg => ?_) (fun hg => ?_)|refine gdfb_pos (by assumption) ?_|refine gdfb_neg (by assumption) ?_|refine gdfb_split (fun hg => ?_) (fun hg => ?_)|refine pickT ?_|refine pickF ?_|refine pick_pos (by first|assumption|omega) ?_|refine pick_neg (by first|assumption|omega) ?_|refine pickn_pos (by first|assumption|omega) ?_|refine pickn_neg (by first|assumption|omega) ?_|refine pickbn_pos (by assumption) ?_|refine pickbn_neg (by assumption) ?_|refine pickb_pos (by assumption) ?_|refine pickb_neg (by assumption) ?_|refine condT ?_|refine condF ?_|refine cond_pos (by first|assumption|omega) ?_|refine cond_neg (by first|assumption|omega) ?_|refine condM_dec (fun hg => ?_) (fun hg => ?_)|refine condn_pos (by first|assumption|omega) ?_|refine condn_neg (by first|assumption|omega) ?_|refine condM_ndec (fun hg => ?_) (fun hg => ?_)|refine condbn_pos (by assumption) ?_|refine condbn_neg (by assumption) ?_|refine condbn_split (fun hg => ?_) (fun hg => ?_)|refine condb_pos (by assumption) ?_|refine condb_neg (by assumption) ?_|refine condM_b (fun hg => ?_) (fun hg => ?_))
    | ((with_reducible refine oM_gen (fun Kv hK => ?_)); simp [go_sem, hr4]; (try simp (disch := omega) only [wrapI64, wrapU8, wrapU32, wrapU64]); (first | refine hK _ _ ?_ | refine And.intro (by omega) (hK _ _ ?_)); clear hK; clear Kv)))
    obtain ⟨m, hm'⟩ : ∃ m, m = (a + s.length - 1) / 64 := ⟨_, rfl⟩
    have hd1 : ((a : Int) + (s.length : Int) - 1).tdiv 64 = (m : Int) := by
      rw [tdivN _ _ (by omega)]; omega
    have hd2 : ((a : Int) + (s.length : Int) - 1) / 64 = (m : Int) := by omega
    have hmb : m < 262144 := by omega
    have hbs : w.heap.size ≤ w4.heap.size := t04.fr.size
    refine ⟨fun l w' => ∃ (n : Nat) (q : List (Int × Int)) (h1 : Dk), l = [.int .i64 (n : Int)] ∧ n ≤ m + 1 ∧ IsDk w' b { A with F := setF A.F f (putB (A.F f).1 a s, (A.F f).2), queue := q } h1 ∧ Step w b h w' h1 ∧ pushQ f q (secsFrom n m) = pushQ f A.queue (secs a s.length), fun l _ => match l with | [.int _ n] => ((m : Int) + 1 - n).toNat | _ => 0, ⟨a / 64, A.queue, h, by simp, by omega, d4, t04, by rw [hm']; rfl⟩, ?_⟩
    rintro l u w5 ⟨n, q, h5, rfl, hnm, d5, t5, hp⟩
    simp only [List.getD_cons_zero]
    repeat (any_goals (first
    | (with_reducible refine pureM_in ?_)
    | (with_reducible first|refine pureQ_in ?_|refine gdQ_conv (fun _ => ?_)|refine pickQT ?_|refine pickQF ?_|refine pickQ_pos (by first|assumption|omega) ?_|refine pickQ_neg (by first|assumption|omega) ?_|refine pickQn_pos (by first|assumption|omega) ?_|refine pickQn_neg (by first|assumption|omega) ?_) | ((with_reducible refine oQ_one ?_ ?_); exact ⟨_, rfl⟩) | (with_reducible first|refine And.intro (Eq.refl (α := World) _) ?_|refine forall_one ?_|refine oQ_nil ?_) | (with_reducible refine oQ_of ⟨_, rfl⟩ (fun W0 hW0 => by (refine oM_gen (fun Kv hK => ?_)); simp [go_sem]; (first | exact hK _ _ ⟨rfl, rfl⟩ | exact ⟨by omega, hK _ _ ⟨rfl, rfl⟩⟩)) ?_)
    | (with_reducible first|refine gdtT ?_|refine gdtF ?_|refine gdfF ?_|refine gdfT ?_|refine gdu ?_ _|refine gdt_pos (by first|assumption|omega) ?_|refine gdt_neg (by first|assumption|omega) ?_|refine gdt_split (fun hg => ?_) (fun hg => ?_)|refine gdf_pos (by first|assumption|omega) ?_|refine gdf_neg (by first|assumption|omega) ?_|refine gdf_split (fun hg => ?_) (fun hg => ?_)|refine gdtn_pos (by first|assumption|omega) ?_|refine gdtn_neg (by first|assumption|omega) ?_|refine gdtn_split (fun hg => ?_) (fun hg => ?_)|refine gdfn_pos (by first|assumption|omega) ?_|refine gdfn_neg (by first|assumption|omega) ?_|refine gdfn_split (fun hg => ?_) (fun hg => ?_)|refine gdtbn_pos (by assumption) ?_|refine gdtbn_neg (by assumption) ?_|refine gdfbn_pos (by assumption) ?_|refine gdfbn_neg (by assumption) ?_|refine gdtb_pos (by assumption) ?_|refine gdtb_neg (by assumption) ?_|refine gdtb_split (fun hg => ?_) (fun hg => ?_)|refine gdfb_pos (by assumption) ?_|refine gdfb_neg (by assumption) ?_|refine gdfb_split (fun hg => ?_) (fun hg => ?_)|refine pickT ?_|refine pickF ?_|refine pick_pos (by first|assumption|omega) ?_|refine pick_neg (by first|assumption|omega) ?_|refine pickn_pos (by first|assumption|omega) ?_|refine pickn_neg (by first|assumption|omega) ?_|refine pickbn_pos (by assumption) ?_|refine pickbn_neg (by assumption) ?_|refine pickb_pos (by assumption) ?_|refine pickb_neg (by assumption) ?_|refine condT ?_|refine condF ?_|refine cond_pos (by first|assumption|omega) ?_|refine cond_neg (by first|assumption|omega) ?_|refine condM_dec (fun hg => ?_) (fun hg => ?_)|refine condn_pos (by first|assumption|omega) ?_|refine condn_neg (by first|assumption|omega) ?_|refine condM_ndec (fun hg => ?_) (fun hg => ?_)|refine condbn_pos (by assumption) ?_|refine condbn_neg (by assumption) ?_|refine condbn_split (fun hg => ?_) (fun hg => ?_)|refine condb_pos (by assumption) ?_|refine condb_neg (by assumption) ?_|refine condM_b (fun hg => ?_) (fun hg => ?_))
    | ((with_reducible refine oM_gen (fun Kv hK => ?_)); simp [go_sem, hd1, hd2]; (try simp (disch := omega) only [wrapI64, wrapU8, wrapU32, wrapU64]); (first | refine hK _ _ ?_ | refine And.intro (by omega) (hK _ _ ?_)); clear hK; clear Kv)))
    · rw [secsFrom_le hg] at hp
      have hp : pushQ f (if (f, (n : Int)) ∈ q then q else q ++ [(f, (n : Int))]) (secsFrom (n + 1) m) = _ := hp
      refine ⟨fun _ w' => ∃ (q' : List (Int × Int)) (h' : Dk), IsDk w' b { A with F := setF A.F f (putB (A.F f).1 a s, (A.F f).2), queue := q' } h' ∧ Step w b h w' h' ∧ pushQ f q' (secsFrom (n + 1) m) = pushQ f A.queue (secs a s.length), ?_, ?_⟩
      · repeat (any_goals (first
        | (with_reducible refine pureM_in ?_)
        | (with_reducible first|refine pureQ_in ?_|refine gdQ_conv (fun _ => ?_)|refine pickQT ?_|refine pickQF ?_|refine pickQ_pos (by first|assumption|omega) ?_|refine pickQ_neg (by first|assumption|omega) ?_|refine pickQn_pos (by first|assumption|omega) ?_|refine pickQn_neg (by first|assumption|omega) ?_) | ((with_reducible refine oQ_one ?_ ?_); exact ⟨_, rfl⟩) | (with_reducible first|refine And.intro (Eq.refl (α := World) _) ?_|refine forall_one ?_|refine oQ_nil ?_) | (with_reducible refine oQ_of ⟨_, rfl⟩ (fun W0 hW0 => by (refine oM_gen (fun Kv hK => ?_)); simp [go_sem]; (first | exact hK _ _ ⟨rfl, rfl⟩ | exact ⟨by omega, hK _ _ ⟨rfl, rfl⟩⟩)) ?_)
        | (with_reducible first|refine gdtT ?_|refine gdtF ?_|refine gdfF ?_|refine gdfT ?_|refine gdu ?_ _|refine gdt_pos (by first|assumption|omega) ?_|refine gdt_neg (by first|assumption|omega) ?_|refine gdt_split (fun hg => ?_) (fun hg => ?_)|refine gdf_pos (by first|assumption|omega) ?_|refine gdf_neg (by first|assumption|omega) ?_|refine gdf_split (fun hg => ?_) (fun hg => ?_)|refine gdtn_pos (by first|assumption|omega) ?_|refine gdtn_neg (by first|assumption|omega) ?_|refine gdtn_split (fun hg => ?_) (fun hg => ?_)|refine gdfn_pos (by first|assumption|omega) ?_|refine gdfn_neg (by first|assumption|omega) ?_|refine gdfn_split (fun hg => ?_) (fun hg => ?_)|refine gdtbn_pos (by assumption) ?_|refine gdtbn_neg (by assumption) ?_|refine gdfbn_pos (by assumption) ?_|refine gdfbn_neg (by assumption) ?_|refine gdtb_pos (by assumption) ?_|refine gdtb_neg (by assumption) ?_|refine gdtb_split (fun hg => ?_) (fun hg => ?_)|refine gdfb_pos (by assumption) ?_|refine gdfb_neg (by assumption) ?_|refine gdfb_split (fun hg => ?_) (fun hg => ?_)|refine pickT ?_|refine pickF ?_|refine pick_pos (by first|assumption|omega) ?_|refine pick_neg (by first|assumption|omega) ?_|refine pickn_pos (by first|assumption|omega) ?_|refine pickn_neg (by first|assumption|omega) ?_|refine pickbn_pos (by assumption) ?_|refine pickbn_neg (by assumption) ?_|refine pickb_pos (by assumption) ?_|refine pickb_neg (by assumption) ?_|refine condT ?_|refine condF ?_|refine cond_pos (by first|assumption|omega) ?_|refine cond_neg (by first|assumption|omega) ?_|refine condM_dec (fun hg => ?_) (fun hg => ?_)|refine condn_pos (by first|assumption|omega) ?_|refine condn_neg (by first|assumption|omega) ?_|refine condM_ndec (fun hg => ?_) (fun hg => ?_)|refine condbn_pos (by assumption) ?_|refine condbn_neg (by assumption) ?_|refine condbn_split (fun hg => ?_) (fun hg => ?_)|refine condb_pos (by assumption) ?_|refine condb_neg (by assumption) ?_|refine condM_b (fun hg => ?_) (fun hg => ?_))
        | ((with_reducible refine oM_gen (fun Kv hK => ?_)); simp [go_sem]; (try simp (disch := omega) only [wrapI64, wrapU8, wrapU32, wrapU64]); (first | refine hK _ _ ?_ | refine And.intro (by omega) (hK _ _ ?_)); clear hK; clear Kv)))
        have p0 := heap_alloc_new w5 (.cells #[.int .i64 f, .int .i64 (n : Int)] 69 (0, 0))
        have pf : Fr (fun _ => False) w5 (w5.alloc (.cells #[.int .i64 f, .int .i64 (n : Int)] 69 (0, 0))) := (Fr.refl _ _).alloc _
        have pz := alloc_size w5 (.cells #[.int .i64 f, .int .i64 (n : Int)] 69 (0, 0))
        generalize w5.alloc (.cells #[.int .i64 f, .int .i64 (n : Int)] 69 (0, 0)) = w6 at *
        have d6 := d5.fresh pf
        have c62 := d6.c 2
        simp only [dkCells] at c62
        have p00 := cell_of_block p0 0
        have p01 := cell_of_block p0 1
        simp at p00 p01
        have lk : ∀ W : World, W.heap = w6.heap → _ := fun W hW => (d6.heap hW).lookS (f, (n : Int))
        simp only at lk
        refine ⟨fun s w' => s ≤ 0 → w'.heap = w6.heap, fun _ => rfl, ?_⟩
        repeat (first | (with_reducible refine pureH_in ?_) | (with_reducible refine oH_nil ?_) | (with_reducible refine gdH_true rfl ?_) | (with_reducible refine gdH_false rfl ?_) | (refine oH_of ⟨_, rfl⟩ (fun W0 hW0 => by (obtain ⟨s0, hs0, hC⟩ := hW0); (refine oM_gen (fun Kv hK => ?_)); simp [go_sem, cell_heap (hC (by omega)), c62, p00, p01, lk W0 (hC (by omega))]; (first | exact hK _ _ ⟨rfl, rfl⟩ | exact ⟨by omega, hK _ _ ⟨rfl, rfl⟩⟩)) ?_))
        generalize hw7 : ({ w6 with drawn := w6.drawn + 1 } : World) = w7
        have d7 : IsDk w7 b _ h5 := d6.heap (by rw [← hw7])
        have t7 : Step w b h w7 h5 := t5.trans (Step.fresh (by rw [← hw7]; exact pf.drew))
        have p7 : w7.heap[w5.heap.size]? = some (.cells #[.int .i64 f, .int .i64 (n : Int)] 69 (0, 0)) := by rw [← hw7]; exact p0
        have z7 : w7.heap.size = w5.heap.size + 1 := by rw [← hw7]; exact pz
        clear hw7
        have b5 : b < w5.heap.size := d5.lt (.inl (.inl rfl))
        repeat (any_goals (first
        | (with_reducible refine pureM_in ?_)
        | (with_reducible first|refine pureQ_in ?_|refine gdQ_conv (fun _ => ?_)|refine pickQT ?_|refine pickQF ?_|refine pickQ_pos (by first|assumption|omega) ?_|refine pickQ_neg (by first|assumption|omega) ?_|refine pickQn_pos (by first|assumption|omega) ?_|refine pickQn_neg (by first|assumption|omega) ?_) | ((with_reducible refine oQ_one ?_ ?_); exact ⟨_, rfl⟩) | (with_reducible first|refine And.intro (Eq.refl (α := World) _) ?_|refine forall_one ?_|refine oQ_nil ?_) | (with_reducible refine oQ_of ⟨_, rfl⟩ (fun W0 hW0 => by (refine oM_gen (fun Kv hK => ?_)); simp [go_sem]; (first | exact hK _ _ ⟨rfl, rfl⟩ | exact ⟨by omega, hK _ _ ⟨rfl, rfl⟩⟩)) ?_)
        | (with_reducible first|refine gdtT ?_|refine gdtF ?_|refine gdfF ?_|refine gdfT ?_|refine gdu ?_ _|refine gdt_pos (by first|assumption|omega) ?_|refine gdt_neg (by first|assumption|omega) ?_|refine gdt_split (fun hg => ?_) (fun hg => ?_)|refine gdf_pos (by first|assumption|omega) ?_|refine gdf_neg (by first|assumption|omega) ?_|refine gdf_split (fun hg => ?_) (fun hg => ?_)|refine gdtn_pos (by first|assumption|omega) ?_|refine gdtn_neg (by first|assumption|omega) ?_|refine gdtn_split (fun hg => ?_) (fun hg => ?_)|refine gdfn_pos (by first|assumption|omega) ?_|refine gdfn_neg (by first|assumption|omega) ?_|refine gdfn_split (fun hg => ?_) (fun hg => ?_)|refine gdtbn_pos (by assumption) ?_|refine gdtbn_neg (by assumption) ?_|refine gdfbn_pos (by assumption) ?_|refine gdfbn_neg (by assumption) ?_|refine gdtb_pos (by assumption) ?_|refine gdtb_neg (by assumption) ?_|refine gdtb_split (fun hg => ?_) (fun hg => ?_)|refine gdfb_pos (by assumption) ?_|refine gdfb_neg (by assumption) ?_|refine gdfb_split (fun hg => ?_) (fun hg => ?_)|refine pickT ?_|refine pickF ?_|refine pick_pos (by first|assumption|omega) ?_|refine pick_neg (by first|assumption|omega) ?_|refine pickn_pos (by first|assumption|omega) ?_|refine pickn_neg (by first|assumption|omega) ?_|refine pickbn_pos (by assumption) ?_|refine pickbn_neg (by assumption) ?_|refine pickb_pos (by assumption) ?_|refine pickb_neg (by assumption) ?_|refine condT ?_|refine condF ?_|refine cond_pos (by first|assumption|omega) ?_|refine cond_neg (by first|assumption|omega) ?_|refine condM_dec (fun hg => ?_) (fun hg => ?_)|refine condn_pos (by first|assumption|omega) ?_|refine condn_neg (by first|assumption|omega) ?_|refine condM_ndec (fun hg => ?_) (fun hg => ?_)|refine condbn_pos (by assumption) ?_|refine condbn_neg (by assumption) ?_|refine condbn_split (fun hg => ?_) (fun hg => ?_)|refine condb_pos (by assumption) ?_|refine condb_neg (by assumption) ?_|refine condM_b (fun hg => ?_) (fun hg => ?_))
        | ((with_reducible refine oM_gen (fun Kv hK => ?_)); simp [go_sem]; (try simp (disch := omega) only [wrapI64, wrapU8, wrapU32, wrapU64]); (first | refine hK _ _ ?_ | refine And.intro (by omega) (hK _ _ ?_)); clear hK; clear Kv)))
        · rename_i hin
          rw [if_pos (by assumption)] at hp
          exact ⟨q, h5, d7, t7, hp⟩
        · rename_i hin
          refine ⟨fun sg w' => sg ≤ 5 → w'.heap[w5.heap.size]? = some (.cells #[.int .i64 f, .int .i64 (n : Int)] 69 (0, 0)) ∧ (sg ≤ 2 → w'.heap[b]? = some (.cells (dkCells { A with F := setF A.F f (putB (A.F f).1 a s, (A.F f).2), queue := q } h5) 54 (0, 0))), fun _ => ⟨p7, fun _ => d7.blk⟩, ?_⟩
          iterate 5 (first | (with_reducible refine pureH_in ?_) | (with_reducible refine oH_nil ?_) | (with_reducible refine gdH_true rfl ?_) | (with_reducible refine gdH_false rfl ?_) | (refine oH_of ⟨_, rfl⟩ (fun W0 hW0 => by (obtain ⟨s0, hs0, hC⟩ := hW0); (have hsk : s0 ≤ 2 := by omega); (refine oM_gen (fun Kv hK => ?_)); simp [go_sem, cell_of_block (hC (Nat.le_trans hsk (by decide))).1, cell_of_block ((hC (Nat.le_trans hsk (by decide))).2 hsk), dkCells]; (first | exact hK _ _ ⟨rfl, rfl⟩ | exact ⟨by omega, hK _ _ ⟨rfl, rfl⟩⟩)) ?_))
          iterate 1 (first | (with_reducible refine pureH_in ?_) | (with_reducible refine oH_nil ?_) | (with_reducible refine gdH_true rfl ?_) | (with_reducible refine gdH_false rfl ?_) | (refine oH_of ⟨_, rfl⟩ (fun W0 hW0 => by (obtain ⟨s0, hs0, hC⟩ := hW0); (have hsk : s0 ≤ 5 := by omega); (refine oM_gen (fun Kv hK => ?_)); simp [go_sem, cell_of_block (hC hsk).1]; (first | exact hK _ _ ⟨rfl, rfl⟩ | exact ⟨by omega, hK _ _ ⟨rfl, rfl⟩⟩)) ?_))
          repeat (first | (with_reducible refine pureH_in ?_) | (with_reducible refine oH_nil ?_) | (with_reducible refine gdH_true rfl ?_) | (with_reducible refine gdH_false rfl ?_) | (refine oH_of ⟨_, rfl⟩ (fun W0 hW0 => by (obtain ⟨s0, hs0, hC⟩ := hW0); (have hsk : s0 ≤ 2 := by omega); (refine oM_gen (fun Kv hK => ?_)); simp [go_sem, cell_of_block (hC (Nat.le_trans hsk (by decide))).1, cell_of_block ((hC (Nat.le_trans hsk (by decide))).2 hsk), dkCells]; (first | exact hK _ _ ⟨rfl, rfl⟩ | exact ⟨by omega, hK _ _ ⟨rfl, rfl⟩⟩)) ?_))
          generalize hw8 : ({ w7 with drawn := w7.drawn + 1 } : World) = w8
          have d8 : IsDk w8 b _ h5 := d7.heap (by rw [← hw8])
          have t8 : Step w b h w8 h5 := t7.trans (Step.fresh (by rw [← hw8]; exact (Fr.refl _ _).drew))
          have p8 : w8.heap[w5.heap.size]? = some (.cells #[.int .i64 f, .int .i64 (n : Int)] 69 (0, 0)) := by rw [← hw8]; exact p7
          clear hw8
          repeat (any_goals (first
          | (with_reducible refine pureM_in ?_)
          | (with_reducible first|refine pureQ_in ?_|refine gdQ_conv (fun _ => ?_)|refine pickQT ?_|refine pickQF ?_|refine pickQ_pos (by first|assumption|omega) ?_|refine pickQ_neg (by first|assumption|omega) ?_|refine pickQn_pos (by first|assumption|omega) ?_|refine pickQn_neg (by first|assumption|omega) ?_) | ((with_reducible refine oQ_one ?_ ?_); exact ⟨_, rfl⟩) | (with_reducible first|refine And.intro (Eq.refl (α := World) _) ?_|refine forall_one ?_|refine oQ_nil ?_) | (with_reducible refine oQ_of ⟨_, rfl⟩ (fun W0 hW0 => by (refine oM_gen (fun Kv hK => ?_)); simp [go_sem]; (first | exact hK _ _ ⟨rfl, rfl⟩ | exact ⟨by omega, hK _ _ ⟨rfl, rfl⟩⟩)) ?_)
          | (with_reducible first|refine gdtT ?_|refine gdtF ?_|refine gdfF ?_|refine gdfT ?_|refine gdu ?_ _|refine gdt_pos (by first|assumption|omega) ?_|refine gdt_neg (by first|assumption|omega) ?_|refine gdt_split (fun hg => ?_) (fun hg => ?_)|refine gdf_pos (by first|assumption|omega) ?_|refine gdf_neg (by first|assumption|omega) ?_|refine gdf_split (fun hg => ?_) (fun hg => ?_)|refine gdtn_pos (by first|assumption|omega) ?_|refine gdtn_neg (by first|assumption|omega) ?_|refine gdtn_split (fun hg => ?_) (fun hg => ?_)|refine gdfn_pos (by first|assumption|omega) ?_|refine gdfn_neg (by first|assumption|omega) ?_|refine gdfn_split (fun hg => ?_) (fun hg => ?_)|refine gdtbn_pos (by assumption) ?_|refine gdtbn_neg (by assumption) ?_|refine gdfbn_pos (by assumption) ?_|refine gdfbn_neg (by assumption) ?_|refine gdtb_pos (by assumption) ?_|refine gdtb_neg (by assumption) ?_|refine gdtb_split (fun hg => ?_) (fun hg => ?_)|refine gdfb_pos (by assumption) ?_|refine gdfb_neg (by assumption) ?_|refine gdfb_split (fun hg => ?_) (fun hg => ?_)|refine pickT ?_|refine pickF ?_|refine pick_pos (by first|assumption|omega) ?_|refine pick_neg (by first|assumption|omega) ?_|refine pickn_pos (by first|assumption|omega) ?_|refine pickn_neg (by first|assumption|omega) ?_|refine pickbn_pos (by assumption) ?_|refine pickbn_neg (by assumption) ?_|refine pickb_pos (by assumption) ?_|refine pickb_neg (by assumption) ?_|refine condT ?_|refine condF ?_|refine cond_pos (by first|assumption|omega) ?_|refine cond_neg (by first|assumption|omega) ?_|refine condM_dec (fun hg => ?_) (fun hg => ?_)|refine condn_pos (by first|assumption|omega) ?_|refine condn_neg (by first|assumption|omega) ?_|refine condM_ndec (fun hg => ?_) (fun hg => ?_)|refine condbn_pos (by assumption) ?_|refine condbn_neg (by assumption) ?_|refine condbn_split (fun hg => ?_) (fun hg => ?_)|refine condb_pos (by assumption) ?_|refine condb_neg (by assumption) ?_|refine condM_b (fun hg => ?_) (fun hg => ?_))
          | ((with_reducible refine oM_gen (fun Kv hK => ?_)); simp [go_sem]; (try simp (disch := omega) only [wrapI64, wrapU8, wrapU32, wrapU64]); (first | refine hK _ _ ?_ | refine And.intro (by omega) (hK _ _ ?_)); clear hK; clear Kv)))
          have hnq : (f, (n : Int)) ∉ q := by assumption
          rw [if_neg hnq] at hp
          have hql : q.length ≤ 4194304 := d8.wf.ql
          have b8 : b < w8.heap.size := d8.lt (.inl (.inl rfl))
          have p8l := (Array.getElem?_eq_some_iff.1 p8).1
          have g9 : Fr (fun _ => False) w8 (w8.alloc (.cells #[.int .i64 f, .int .i64 (n : Int)] 69 (0, 0))) := (Fr.refl _ _).alloc _
          have n9 := heap_alloc_new w8 (.cells #[.int .i64 f, .int .i64 (n : Int)] 69 (0, 0))
          have z9 := alloc_size w8 (.cells #[.int .i64 f, .int .i64 (n : Int)] 69 (0, 0))
          generalize w8.alloc (.cells #[.int .i64 f, .int .i64 (n : Int)] 69 (0, 0)) = w9 at *
          have d9 := d8.fresh g9
          have p9 := (g9.block _ p8l (fun h => h)).trans p8
          refine ⟨fun _ => ⟨p9, fun _ => d9.blk⟩, ?_⟩
          refine append_at 52 52 69 ((Try.prog.info? 69).getD default) (.agg #[.int .i64 0, .int .i64 0]) 2 16 (by kernel_rfl) (by kernel_rfl) (by kernel_rfl) (by kernel_rfl) (by kernel_rfl) (by kernel_rfl) (by omega) d9.que (secC (f, (n : Int))) rfl ?_ ?_ (secC_one _) (by simp only [maxLen]; show q.length + 1 ≤ _; omega) (by show (q.length + 1) * 16 ≤ _; omega) ?_
          · intro h; cases h
          · rintro ad hu j x hj
            cases hu
            rw [add_none, Nat.zero_add, cell_of_block n9]
            match j, hj with
            | 0, hj => exact hj
            | 1, hj => exact hj
          intro v' w10 ho hg10 hv
          have hqb : h5.q.ownBlock ≠ some b := fun e => (d9.qne e).1 rfl
          have p10 := (hg10.block w5.heap.size (by omega) (fun e => by
            have hq5 := (owns_own d5.que e.symm).1
            omega)).trans p9
          have b10 := (hg10.block b (by omega) (fun e => hqb e.symm)).trans d9.blk
          have c101 := cell_of_block b10 1
          have y101 := frozen_of_block b10 1
          simp [dkCells] at c101
          obtain ⟨va, vc, rfl⟩ := owns_len ho
          have n11 : b ≠ w5.heap.size := by omega
          have p11 : (w10.setCell ⟨b, 1, none⟩ (.slice va (q.length + 1) vc)).heap[w5.heap.size]? = _ := (setCell_heap_ne w10 ⟨b, 1, none⟩ _ _ (Ne.symm n11)).trans p10
          refine ⟨fun _ => ⟨p10, fun _ => b10⟩, ?_⟩
          obtain ⟨ls, ms, hls⟩ := d9.set
          have hsm9 : h5.sm < w9.heap.size := d9.lt (.inl (.inr (.inr (.inl rfl))))
          have m10 : MapIs secV w10 h5.sm ls := ms.of_block (hg10.block _ hsm9 (fun e => (d9.qne e.symm).2.2 rfl))
          have m11 : MapIs secV (w10.setCell ⟨b, 1, none⟩ (.slice va (q.length + 1) vc)) h5.sm ls := m10.of_block (setCell_heap_ne _ _ _ _ d9.bsm.symm)
          obtain ⟨w12, st, hr12, g12, z12, hst⟩ := run_entryNew (P := Try.prog) (t := 51) (et := 4) (z := .bool false) keyS (by kernel_rfl) (fun w => by kernel_rfl) m11 (f, (n : Int)) (by rw [hls]; exact if_neg hnq)
          obtain ⟨w13, hr13, m13, g13, z13⟩ := hst (.bool true)
          simp only [secV] at hr12
          repeat (any_goals (first
          | (with_reducible refine pureM_in ?_)
          | (with_reducible first|refine pureQ_in ?_|refine gdQ_conv (fun _ => ?_)|refine pickQT ?_|refine pickQF ?_|refine pickQ_pos (by first|assumption|omega) ?_|refine pickQ_neg (by first|assumption|omega) ?_|refine pickQn_pos (by first|assumption|omega) ?_|refine pickQn_neg (by first|assumption|omega) ?_) | ((with_reducible refine oQ_one ?_ ?_); exact ⟨_, rfl⟩) | (with_reducible first|refine And.intro (Eq.refl (α := World) _) ?_|refine forall_one ?_|refine oQ_nil ?_) | (with_reducible refine oQ_of ⟨_, rfl⟩ (fun W0 hW0 => by (refine oM_gen (fun Kv hK => ?_)); simp [go_sem]; (first | exact hK _ _ ⟨rfl, rfl⟩ | exact ⟨by omega, hK _ _ ⟨rfl, rfl⟩⟩)) ?_)
          | (with_reducible refine And.intro (fun _ => And.intro p10 (fun hs => absurd hs (by decide))) ?_) | (with_reducible refine And.intro (fun _ => And.intro p11 (fun hs => absurd hs (by decide))) ?_) | (with_reducible refine And.intro (fun hs => absurd hs (by decide)) ?_)
          | (with_reducible first|refine gdtT ?_|refine gdtF ?_|refine gdfF ?_|refine gdfT ?_|refine gdu ?_ _|refine gdt_pos (by first|assumption|omega) ?_|refine gdt_neg (by first|assumption|omega) ?_|refine gdt_split (fun hg => ?_) (fun hg => ?_)|refine gdf_pos (by first|assumption|omega) ?_|refine gdf_neg (by first|assumption|omega) ?_|refine gdf_split (fun hg => ?_) (fun hg => ?_)|refine gdtn_pos (by first|assumption|omega) ?_|refine gdtn_neg (by first|assumption|omega) ?_|refine gdtn_split (fun hg => ?_) (fun hg => ?_)|refine gdfn_pos (by first|assumption|omega) ?_|refine gdfn_neg (by first|assumption|omega) ?_|refine gdfn_split (fun hg => ?_) (fun hg => ?_)|refine gdtbn_pos (by assumption) ?_|refine gdtbn_neg (by assumption) ?_|refine gdfbn_pos (by assumption) ?_|refine gdfbn_neg (by assumption) ?_|refine gdtb_pos (by assumption) ?_|refine gdtb_neg (by assumption) ?_|refine gdtb_split (fun hg => ?_) (fun hg => ?_)|refine gdfb_pos (by assumption) ?_|refine gdfb_neg (by assumption) ?_|refine gdfb_split (fun hg => ?_) (fun hg => ?_)|refine pickT ?_|refine pickF ?_|refine pick_pos (by first|assumption|omega) ?_|refine pick_neg (by first|assumption|omega) ?_|refine pickn_pos (by first|assumption|omega) ?_|refine pickn_neg (by first|assumption|omega) ?_|refine pickbn_pos (by assumption) ?_|refine pickbn_neg (by assumption) ?_|refine pickb_pos (by assumption) ?_|refine pickb_neg (by assumption) ?_|refine condT ?_|refine condF ?_|refine cond_pos (by first|assumption|omega) ?_|refine cond_neg (by first|assumption|omega) ?_|refine condM_dec (fun hg => ?_) (fun hg => ?_)|refine condn_pos (by first|assumption|omega) ?_|refine condn_neg (by first|assumption|omega) ?_|refine condM_ndec (fun hg => ?_) (fun hg => ?_)|refine condbn_pos (by assumption) ?_|refine condbn_neg (by assumption) ?_|refine condbn_split (fun hg => ?_) (fun hg => ?_)|refine condb_pos (by assumption) ?_|refine condb_neg (by assumption) ?_|refine condM_b (fun hg => ?_) (fun hg => ?_))
          | ((with_reducible refine oM_gen (fun Kv hK => ?_)); simp [go_sem, c101, y101, hr12, hr13]; (try simp (disch := omega) only [wrapI64, wrapU8, wrapU32, wrapU64]); (first | refine hK _ _ ?_ | refine And.intro (by omega) (hK _ _ ?_)); clear hK; clear Kv)))
          obtain ⟨d13, t13⟩ := push_done d9 hg10 ho hv m13 hls (grownBy_trans g12 g13) (push_wf d9.wf hmay.2 (by omega) hnq)
          exact ⟨q ++ [(f, (n : Int))], _, d13, t8.trans ((Step.fresh g9).trans t13), hp⟩
      · rintro l u w6 ⟨q', h6, d6, t6, hp6⟩
        repeat (any_goals (first
        | (with_reducible refine pureM_in ?_)
        | (with_reducible first|refine pureQ_in ?_|refine gdQ_conv (fun _ => ?_)|refine pickQT ?_|refine pickQF ?_|refine pickQ_pos (by first|assumption|omega) ?_|refine pickQ_neg (by first|assumption|omega) ?_|refine pickQn_pos (by first|assumption|omega) ?_|refine pickQn_neg (by first|assumption|omega) ?_) | ((with_reducible refine oQ_one ?_ ?_); exact ⟨_, rfl⟩) | (with_reducible first|refine And.intro (Eq.refl (α := World) _) ?_|refine forall_one ?_|refine oQ_nil ?_) | (with_reducible refine oQ_of ⟨_, rfl⟩ (fun W0 hW0 => by (refine oM_gen (fun Kv hK => ?_)); simp [go_sem]; (first | exact hK _ _ ⟨rfl, rfl⟩ | exact ⟨by omega, hK _ _ ⟨rfl, rfl⟩⟩)) ?_)
        | (with_reducible first|refine gdtT ?_|refine gdtF ?_|refine gdfF ?_|refine gdfT ?_|refine gdu ?_ _|refine gdt_pos (by first|assumption|omega) ?_|refine gdt_neg (by first|assumption|omega) ?_|refine gdt_split (fun hg => ?_) (fun hg => ?_)|refine gdf_pos (by first|assumption|omega) ?_|refine gdf_neg (by first|assumption|omega) ?_|refine gdf_split (fun hg => ?_) (fun hg => ?_)|refine gdtn_pos (by first|assumption|omega) ?_|refine gdtn_neg (by first|assumption|omega) ?_|refine gdtn_split (fun hg => ?_) (fun hg => ?_)|refine gdfn_pos (by first|assumption|omega) ?_|refine gdfn_neg (by first|assumption|omega) ?_|refine gdfn_split (fun hg => ?_) (fun hg => ?_)|refine gdtbn_pos (by assumption) ?_|refine gdtbn_neg (by assumption) ?_|refine gdfbn_pos (by assumption) ?_|refine gdfbn_neg (by assumption) ?_|refine gdtb_pos (by assumption) ?_|refine gdtb_neg (by assumption) ?_|refine gdtb_split (fun hg => ?_) (fun hg => ?_)|refine gdfb_pos (by assumption) ?_|refine gdfb_neg (by assumption) ?_|refine gdfb_split (fun hg => ?_) (fun hg => ?_)|refine pickT ?_|refine pickF ?_|refine pick_pos (by first|assumption|omega) ?_|refine pick_neg (by first|assumption|omega) ?_|refine pickn_pos (by first|assumption|omega) ?_|refine pickn_neg (by first|assumption|omega) ?_|refine pickbn_pos (by assumption) ?_|refine pickbn_neg (by assumption) ?_|refine pickb_pos (by assumption) ?_|refine pickb_neg (by assumption) ?_|refine condT ?_|refine condF ?_|refine cond_pos (by first|assumption|omega) ?_|refine cond_neg (by first|assumption|omega) ?_|refine condM_dec (fun hg => ?_) (fun hg => ?_)|refine condn_pos (by first|assumption|omega) ?_|refine condn_neg (by first|assumption|omega) ?_|refine condM_ndec (fun hg => ?_) (fun hg => ?_)|refine condbn_pos (by assumption) ?_|refine condbn_neg (by assumption) ?_|refine condbn_split (fun hg => ?_) (fun hg => ?_)|refine condb_pos (by assumption) ?_|refine condb_neg (by assumption) ?_|refine condM_b (fun hg => ?_) (fun hg => ?_))
        | ((with_reducible refine oM_gen (fun Kv hK => ?_)); simp [go_sem]; (try simp (disch := omega) only [wrapI64, wrapU8, wrapU32, wrapU64]); (first | refine hK _ _ ?_ | refine And.intro (by omega) (hK _ _ ?_)); clear hK; clear Kv)))
        refine ⟨⟨n + 1, q', h6, by simp, by omega, d6, t6, hp6⟩, ?_⟩
        show ((m : Int) + 1 - ((n : Int) + 1)).toNat < _
        omega
    · rw [secsFrom_gt (by omega)] at hp
      have hp : q = _ := hp
      refine k0 w5 h5 ?_ t5
      have e : addA A f a s = { A with F := setF A.F f (putB (A.F f).1 a s, (A.F f).2), queue := q } := by
        unfold addA
        rw [if_neg hsne, hp]
      rw [e]
      exact d5
  · exact k' (mayA A f) A (by rw [if_pos hg]) w h d (Step.refl _ _ _)
end
end Go.Proofs
