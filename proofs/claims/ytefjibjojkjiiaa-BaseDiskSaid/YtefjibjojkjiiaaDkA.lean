/- DkA: a part of the proof of the seat's statements: lemmas about the given translation and plain laws. No condition of its own. -/
--Q
import Derived.Test.YtefjibjojkjiiaaHDk
import Derived.Test.YtefjibjojkjiiaaShRow
import Derived.Test.YtefjibjojkjiiaaDkSpec
set_option linter.all false
namespace Go.Proofs
open Go Go.Sh Go.RowKit DkSpec
set_option linter.unusedSimpArgs false
set_option maxRecDepth 10000
@[reducible] def bsV (s : Bs) : Value := .string ⟨s.toArray⟩
def flV (x : Bs × Bs) : Value := .agg #[bsV x.1, bsV x.2]
def i64V (n : Int) : Value := .int .i64 n
def secV (p : Int × Int) : Value := .agg #[.int .i64 p.1, .int .i64 p.2]
def secC (p : Int × Int) : List Value := [.int .i64 p.1, .int .i64 p.2]
theorem keyI : KeyOK Try.prog 3 i64V := keyInt (by kernel_rfl)
theorem keyS : KeyOK Try.prog 69 secV where
  find := fun w k es ks h => by
    refine (run_findKey_eq w (by kernel_rfl) _ _).trans ?_
    have := findAsk_pair (P := Try.prog) (kt := 69) secV (fun w a b => by
      simp [Op.equal, Op.maxDepth, secV, go_sem]
      obtain ⟨a1, a2⟩ := a
      obtain ⟨b1, b2⟩ := b
      by_cases h1 : a1 = b1 <;> by_cases h2 : a2 = b2 <;> simp [h1, h2]) w k es ks 0 h
    simpa using this
  check := fun b w k => by
    have h : ∀ n, (Instr.checkKey b (n + 2) 69 (secV k)).run Try.prog w = .ok () w := by
      intro n
      simp [Instr.checkKey, secV, go_sem]
    exact h 9998
  same := fun k => by simp [secV, Instr.sameBits]
structure Dk where
  fm : Nat
  sm : Nat
  q : Value
  kp : Value
def dkCells (A : Ab) (h : Dk) : Array Value := #[.map (some h.fm), h.q, .map (some h.sm), .int .i64 A.lost, .bool A.down, .int .i64 A.armed, h.kp]
structure IsDk (w : World) (b : Nat) (A : Ab) (h : Dk) : Prop where
  blk : w.heap[b]? = some (.cells (dkCells A h) 54 (0, 0))
  files : ∃ l, MapIs i64V w h.fm l ∧ ∀ f, (lookA l f).getD (flV ([], [])) = flV (A.F f)
  set : ∃ sl, MapIs secV w h.sm sl ∧ ∀ p, lookA sl p = if p ∈ A.queue then some (.bool true) else none
  que : w.ownsRow 0 69 2 h.q A.queue.length (flat secC A.queue)
  kep : w.ownsRow 0 3 1 h.kp A.keep.length (A.keep.map i64V)
  ne : h.fm ≠ h.sm
  wf : WF A
def Own (b : Nat) (h : Dk) (i : Nat) : Prop := i = b ∨ i = h.fm ∨ i = h.sm ∨ h.q.ownBlock = some i
def Rdb (h : Dk) (i : Nat) : Prop := h.kp.ownBlock = some i
structure Step (w : World) (b : Nat) (h : Dk) (w' : World) (h' : Dk) : Prop where
  fr : Fr (Own b h) w w'
  own : ∀ i, Own b h' i → Own b h i ∨ w.heap.size ≤ i
  rd : ∀ i, Rdb h' i → Rdb h i ∨ w.heap.size ≤ i
theorem Step.refl (w : World) (b : Nat) (h : Dk) : Step w b h w h := ⟨Fr.refl _ _, fun _ h => .inl h, fun _ h => .inl h⟩
theorem Step.trans {w w1 w2 : World} {b : Nat} {h h1 h2 : Dk} (a : Step w b h w1 h1) (c : Step w1 b h1 w2 h2) : Step w b h w2 h2 :=
  ⟨a.fr.trans c.fr a.own, fun i hi => (c.own i hi).elim (a.own i) (fun h => .inr (Nat.le_trans a.fr.size h)), fun i hi => (c.rd i hi).elim (a.rd i) (fun h => .inr (Nat.le_trans a.fr.size h))⟩
section
variable {w w' : World} {b : Nat} {A : Ab} {h : Dk}
theorem IsDk.lt (d : IsDk w b A h) {i : Nat} (hi : Own b h i ∨ Rdb h i) : i < w.heap.size := by
  rcases hi with (rfl | rfl | rfl | hi) | hi
  · exact (Array.getElem?_eq_some_iff.1 d.blk).1
  · obtain ⟨l, hl, _⟩ := d.files; exact hl.lt
  · obtain ⟨l, hl, _⟩ := d.set; exact hl.lt
  · exact (owns_own d.que hi).1
  · exact (owns_own d.kep hi).1
theorem IsDk.keep (d : IsDk w b A h) (hk : ∀ i, Own b h i ∨ Rdb h i → w'.heap[i]? = w.heap[i]?) : IsDk w' b A h := by
  refine ⟨?_, ?_, ?_, owns_keep d.que (fun i hi => hk i (.inl (.inr (.inr (.inr hi))))), owns_keep d.kep (fun i hi => hk i (.inr hi)), d.ne, d.wf⟩
  · rw [hk b (.inl (.inl rfl))]; exact d.blk
  · obtain ⟨l, hl, h2⟩ := d.files
    exact ⟨l, hl.of_block (hk _ (.inl (.inr (.inl rfl)))), h2⟩
  · obtain ⟨l, hl, h2⟩ := d.set
    exact ⟨l, hl.of_block (hk _ (.inl (.inr (.inr (.inl rfl))))), h2⟩
theorem MapIs.isMap {κ : Type} {mk : κ → Value} {i : Nat} {l : List (κ × Value)} (h : MapIs mk w i l) : ∃ es c, w.heap[i]? = some (.map es c) := by
  obtain ⟨es, c, h, _⟩ := h; exact ⟨es, c, h⟩
theorem IsDk.bfm (d : IsDk w b A h) : b ≠ h.fm := by
  obtain ⟨l, hl, _⟩ := d.files
  obtain ⟨es, c, h1⟩ := MapIs.isMap hl
  intro e
  have h2 := d.blk
  rw [e, h1] at h2; cases h2
theorem IsDk.bsm (d : IsDk w b A h) : b ≠ h.sm := by
  obtain ⟨l, hl, _⟩ := d.set
  obtain ⟨es, c, h1⟩ := MapIs.isMap hl
  intro e
  have h2 := d.blk
  rw [e, h1] at h2; cases h2
theorem IsDk.qne (d : IsDk w b A h) {i : Nat} (hi : h.q.ownBlock = some i) : i ≠ b ∧ i ≠ h.fm ∧ i ≠ h.sm := by
  obtain ⟨_, _, cur, hc⟩ := owns_own d.que hi
  refine ⟨?_, ?_, ?_⟩
  · rintro rfl; rw [d.blk] at hc; cases hc
  · rintro rfl
    obtain ⟨l, hl, _⟩ := d.files
    obtain ⟨es, c, h1⟩ := MapIs.isMap hl
    rw [h1] at hc; cases hc
  · rintro rfl
    obtain ⟨l, hl, _⟩ := d.set
    obtain ⟨es, c, h1⟩ := MapIs.isMap hl
    rw [h1] at hc; cases hc
theorem IsDk.kne (d : IsDk w b A h) {i : Nat} (hi : h.kp.ownBlock = some i) : i ≠ b ∧ i ≠ h.fm ∧ i ≠ h.sm ∧ h.q.ownBlock ≠ some i := by
  obtain ⟨_, _, cur, hc⟩ := owns_own d.kep hi
  refine ⟨?_, ?_, ?_, ?_⟩
  · rintro rfl; rw [d.blk] at hc; cases hc
  · rintro rfl
    obtain ⟨l, hl, _⟩ := d.files
    obtain ⟨es, c, h1⟩ := MapIs.isMap hl
    rw [h1] at hc; cases hc
  · rintro rfl
    obtain ⟨l, hl, _⟩ := d.set
    obtain ⟨es, c, h1⟩ := MapIs.isMap hl
    rw [h1] at hc; cases hc
  · intro hq
    obtain ⟨_, _, cur', hc'⟩ := owns_own d.que hq
    rw [hc] at hc'; cases hc'
/-- only plain cells of the disk have changed -/
theorem IsDk.cells (d : IsDk w b A h) {A' : Ab} (hF : A'.F = A.F) (hq : A'.queue = A.queue) (hk : A'.keep = A.keep) (hw : WF A') (hb : w'.heap[b]? = some (.cells (dkCells A' h) 54 (0, 0))) (ho : ∀ i, i ≠ b → w'.heap[i]? = w.heap[i]?) : IsDk w' b A' h := by
  refine ⟨hb, ?_, ?_, ?_, ?_, d.ne, hw⟩
  · obtain ⟨l, hl, h2⟩ := d.files
    exact ⟨l, hl.of_block (ho _ d.bfm.symm), by rw [hF]; exact h2⟩
  · obtain ⟨l, hl, h2⟩ := d.set
    exact ⟨l, hl.of_block (ho _ d.bsm.symm), by rw [hq]; exact h2⟩
  · rw [hq]; exact owns_keep d.que (fun i hi => ho i (d.qne hi).1)
  · rw [hk]; exact owns_keep d.kep (fun i hi => ho i (d.kne hi).1)
theorem IsDk.c (d : IsDk w b A h) (i : Nat) : w.cell? ⟨b, i, none⟩ = (dkCells A h)[i]? := cell_of_block d.blk i
theorem IsDk.fz (d : IsDk w b A h) (i : Nat) : w.frozen? ⟨b, i, none⟩ = false := frozen_of_block d.blk i
theorem IsDk.set3 (d : IsDk w b A h) (n : Int) (hn : 0 ≤ n ∧ n < 2 ^ 63) : IsDk (w.setCell ⟨b, 3, none⟩ (.int .i64 n)) b { A with lost := n } h :=
  d.cells rfl rfl rfl ⟨hn.1, hn.2, d.wf.a0, d.wf.a1, d.wf.nd, d.wf.qr, d.wf.sz, d.wf.kr, d.wf.kl⟩ (by rw [block_set d.blk]; rfl) (fun i hi => setCell_heap_ne _ _ _ _ hi)
theorem IsDk.set4 (d : IsDk w b A h) (t : Bool) : IsDk (w.setCell ⟨b, 4, none⟩ (.bool t)) b { A with down := t } h :=
  d.cells rfl rfl rfl ⟨d.wf.l0, d.wf.l1, d.wf.a0, d.wf.a1, d.wf.nd, d.wf.qr, d.wf.sz, d.wf.kr, d.wf.kl⟩ (by rw [block_set d.blk]; rfl) (fun i hi => setCell_heap_ne _ _ _ _ hi)
theorem IsDk.set5 (d : IsDk w b A h) (n : Int) (hn : 0 ≤ n ∧ n < 2 ^ 63) : IsDk (w.setCell ⟨b, 5, none⟩ (.int .i64 n)) b { A with armed := n } h :=
  d.cells rfl rfl rfl ⟨d.wf.l0, d.wf.l1, hn.1, hn.2, d.wf.nd, d.wf.qr, d.wf.sz, d.wf.kr, d.wf.kl⟩ (by rw [block_set d.blk]; rfl) (fun i hi => setCell_heap_ne _ _ _ _ hi)
theorem step_set (w : World) (b i : Nat) (h : Dk) (u : Value) : Step w b h (w.setCell ⟨b, i, none⟩ u) h := ⟨(Fr.refl _ _).set _ _ (.inl (.inl rfl)), fun _ h => .inl h, fun _ h => .inl h⟩
/-- a file, looked up -/
theorem IsDk.look (d : IsDk w b A h) (f : Int) : (Instr.lookup 50 (.map (some h.fm)) (.int .i64 f) false).run Try.prog w = .ok (flV (A.F f)) w := by
  obtain ⟨l, hl, h2⟩ := d.files
  have := run_lookup (P := Try.prog) (t := 50) (et := 62) (z := flV ([], [])) keyI (by kernel_rfl) (fun w => by kernel_rfl) hl f
  rw [h2] at this
  exact this
end
@[reducible] def dkP (b : Nat) : Value := .pointer (some ⟨b, 0, none⟩)
section
variable {w : World} {b : Nat} {A : Ab} {h : Dk} {K : Value → World → Prop}
theorem down_ok (d : IsDk w b A h) (k : K (.bool A.down) w) : callM Try.prog 13 #[dkP b] K w := by
  apply sh_13_ok
  unfold sh_13 dkP
  have c4 := d.c 4
  simp only [dkCells] at c4
  repeat (any_goals (first
  | (with_reducible refine pureM_in ?_)
  | (with_reducible first|refine pureQ_in ?_|refine gdQ_conv (fun _ => ?_)|refine pickQT ?_|refine pickQF ?_|refine pickQ_pos (by first|assumption|omega) ?_|refine pickQ_neg (by first|assumption|omega) ?_|refine pickQn_pos (by first|assumption|omega) ?_|refine pickQn_neg (by first|assumption|omega) ?_) | ((with_reducible refine oQ_one ?_ ?_); exact ⟨_, rfl⟩) | (with_reducible first|refine And.intro (Eq.refl (α := World) _) ?_|refine forall_one ?_|refine oQ_nil ?_) | (with_reducible refine oQ_of ⟨_, rfl⟩ (fun W0 hW0 => by (refine oM_gen (fun Kv hK => ?_)); simp [go_sem]; (first | exact hK _ _ ⟨rfl, rfl⟩ | exact ⟨by omega, hK _ _ ⟨rfl, rfl⟩⟩)) ?_)
  | (with_reducible first|refine gdtT ?_|refine gdtF ?_|refine gdfF ?_|refine gdfT ?_|refine gdu ?_ _|refine gdt_pos (by first|assumption|omega) ?_|refine gdt_neg (by first|assumption|omega) ?_|refine gdt_split (fun hg => ?_) (fun hg => ?_)|refine gdf_pos (by first|assumption|omega) ?_|refine gdf_neg (by first|assumption|omega) ?_|refine gdf_split (fun hg => ?_) (fun hg => ?_)|refine gdtn_pos (by first|assumption|omega) ?_|refine gdtn_neg (by first|assumption|omega) ?_|refine gdtn_split (fun hg => ?_) (fun hg => ?_)|refine gdfn_pos (by first|assumption|omega) ?_|refine gdfn_neg (by first|assumption|omega) ?_|refine gdfn_split (fun hg => ?_) (fun hg => ?_)|refine gdtbn_pos (by assumption) ?_|refine gdtbn_neg (by assumption) ?_|refine gdfbn_pos (by assumption) ?_|refine gdfbn_neg (by assumption) ?_|refine gdtb_pos (by assumption) ?_|refine gdtb_neg (by assumption) ?_|refine gdtb_split (fun hg => ?_) (fun hg => ?_)|refine gdfb_pos (by assumption) ?_|refine gdfb_neg (by assumption) ?_|refine gdfb_split (fun hg => ?_) (fun hg => ?_)|refine pickT ?_|refine pickF ?_|refine pick_pos (by first|assumption|omega) ?_|refine pick_neg (by first|assumption|omega) ?_|refine pickn_pos (by first|assumption|omega) ?_|refine pickn_neg (by first|assumption|omega) ?_|refine pickbn_pos (by assumption) ?_|refine pickbn_neg (by assumption) ?_|refine pickb_pos (by assumption) ?_|refine pickb_neg (by assumption) ?_|refine condT ?_|refine condF ?_|refine cond_pos (by first|assumption|omega) ?_|refine cond_neg (by first|assumption|omega) ?_|refine condM_dec (fun hg => ?_) (fun hg => ?_)|refine condn_pos (by first|assumption|omega) ?_|refine condn_neg (by first|assumption|omega) ?_|refine condM_ndec (fun hg => ?_) (fun hg => ?_)|refine condbn_pos (by assumption) ?_|refine condbn_neg (by assumption) ?_|refine condbn_split (fun hg => ?_) (fun hg => ?_)|refine condb_pos (by assumption) ?_|refine condb_neg (by assumption) ?_|refine condM_b (fun hg => ?_) (fun hg => ?_))
  | ((with_reducible refine oM_gen (fun Kv hK => ?_)); simp [go_sem, c4]; (try simp (disch := omega) only [wrapI64, wrapU8, wrapU32, wrapU64]); (first | refine hK _ _ ?_ | refine And.intro (by omega) (hK _ _ ?_)); clear hK; clear Kv)))
  exact k
theorem size_ok (d : IsDk w b A h) (f : Int) (k : K (.int .i64 (A.F f).1.length) w) : callM Try.prog 15 #[dkP b, .int .i64 f] K w := by
  apply sh_15_ok
  unfold sh_15 dkP
  have c0 := d.c 0
  simp only [dkCells] at c0
  have hl := d.look f
  repeat (any_goals (first
  | (with_reducible refine pureM_in ?_)
  | (with_reducible first|refine pureQ_in ?_|refine gdQ_conv (fun _ => ?_)|refine pickQT ?_|refine pickQF ?_|refine pickQ_pos (by first|assumption|omega) ?_|refine pickQ_neg (by first|assumption|omega) ?_|refine pickQn_pos (by first|assumption|omega) ?_|refine pickQn_neg (by first|assumption|omega) ?_) | ((with_reducible refine oQ_one ?_ ?_); exact ⟨_, rfl⟩) | (with_reducible first|refine And.intro (Eq.refl (α := World) _) ?_|refine forall_one ?_|refine oQ_nil ?_) | (with_reducible refine oQ_of ⟨_, rfl⟩ (fun W0 hW0 => by (refine oM_gen (fun Kv hK => ?_)); simp [go_sem]; (first | exact hK _ _ ⟨rfl, rfl⟩ | exact ⟨by omega, hK _ _ ⟨rfl, rfl⟩⟩)) ?_)
  | (with_reducible first|refine gdtT ?_|refine gdtF ?_|refine gdfF ?_|refine gdfT ?_|refine gdu ?_ _|refine gdt_pos (by first|assumption|omega) ?_|refine gdt_neg (by first|assumption|omega) ?_|refine gdt_split (fun hg => ?_) (fun hg => ?_)|refine gdf_pos (by first|assumption|omega) ?_|refine gdf_neg (by first|assumption|omega) ?_|refine gdf_split (fun hg => ?_) (fun hg => ?_)|refine gdtn_pos (by first|assumption|omega) ?_|refine gdtn_neg (by first|assumption|omega) ?_|refine gdtn_split (fun hg => ?_) (fun hg => ?_)|refine gdfn_pos (by first|assumption|omega) ?_|refine gdfn_neg (by first|assumption|omega) ?_|refine gdfn_split (fun hg => ?_) (fun hg => ?_)|refine gdtbn_pos (by assumption) ?_|refine gdtbn_neg (by assumption) ?_|refine gdfbn_pos (by assumption) ?_|refine gdfbn_neg (by assumption) ?_|refine gdtb_pos (by assumption) ?_|refine gdtb_neg (by assumption) ?_|refine gdtb_split (fun hg => ?_) (fun hg => ?_)|refine gdfb_pos (by assumption) ?_|refine gdfb_neg (by assumption) ?_|refine gdfb_split (fun hg => ?_) (fun hg => ?_)|refine pickT ?_|refine pickF ?_|refine pick_pos (by first|assumption|omega) ?_|refine pick_neg (by first|assumption|omega) ?_|refine pickn_pos (by first|assumption|omega) ?_|refine pickn_neg (by first|assumption|omega) ?_|refine pickbn_pos (by assumption) ?_|refine pickbn_neg (by assumption) ?_|refine pickb_pos (by assumption) ?_|refine pickb_neg (by assumption) ?_|refine condT ?_|refine condF ?_|refine cond_pos (by first|assumption|omega) ?_|refine cond_neg (by first|assumption|omega) ?_|refine condM_dec (fun hg => ?_) (fun hg => ?_)|refine condn_pos (by first|assumption|omega) ?_|refine condn_neg (by first|assumption|omega) ?_|refine condM_ndec (fun hg => ?_) (fun hg => ?_)|refine condbn_pos (by assumption) ?_|refine condbn_neg (by assumption) ?_|refine condbn_split (fun hg => ?_) (fun hg => ?_)|refine condb_pos (by assumption) ?_|refine condb_neg (by assumption) ?_|refine condM_b (fun hg => ?_) (fun hg => ?_))
  | ((with_reducible refine oM_gen (fun Kv hK => ?_)); simp [go_sem, c0, hl, flV, bsV]; (try simp (disch := omega) only [wrapI64, wrapU8, wrapU32, wrapU64]); (first | refine hK _ _ ?_ | refine And.intro (by omega) (hK _ _ ?_)); clear hK; clear Kv)))
  exact k
theorem may_ok (d : IsDk w b A h) (f : Int) (k : K (.int .i64 (mayA A f)) w) : callM Try.prog 43 #[dkP b, .int .i64 f] K w := by
  apply sh_43_ok
  unfold sh_43 dkP
  have c4 := d.c 4
  simp only [dkCells] at c4
  unfold mayA at k
  repeat (any_goals (first
  | (with_reducible refine pureM_in ?_)
  | (with_reducible first|refine pureQ_in ?_|refine gdQ_conv (fun _ => ?_)|refine pickQT ?_|refine pickQF ?_|refine pickQ_pos (by first|assumption|omega) ?_|refine pickQ_neg (by first|assumption|omega) ?_|refine pickQn_pos (by first|assumption|omega) ?_|refine pickQn_neg (by first|assumption|omega) ?_) | ((with_reducible refine oQ_one ?_ ?_); exact ⟨_, rfl⟩) | (with_reducible first|refine And.intro (Eq.refl (α := World) _) ?_|refine forall_one ?_|refine oQ_nil ?_) | (with_reducible refine oQ_of ⟨_, rfl⟩ (fun W0 hW0 => by (refine oM_gen (fun Kv hK => ?_)); simp [go_sem]; (first | exact hK _ _ ⟨rfl, rfl⟩ | exact ⟨by omega, hK _ _ ⟨rfl, rfl⟩⟩)) ?_)
  | (with_reducible first|refine gdtT ?_|refine gdtF ?_|refine gdfF ?_|refine gdfT ?_|refine gdu ?_ _|refine gdt_pos (by first|assumption|omega) ?_|refine gdt_neg (by first|assumption|omega) ?_|refine gdt_split (fun hg => ?_) (fun hg => ?_)|refine gdf_pos (by first|assumption|omega) ?_|refine gdf_neg (by first|assumption|omega) ?_|refine gdf_split (fun hg => ?_) (fun hg => ?_)|refine gdtn_pos (by first|assumption|omega) ?_|refine gdtn_neg (by first|assumption|omega) ?_|refine gdtn_split (fun hg => ?_) (fun hg => ?_)|refine gdfn_pos (by first|assumption|omega) ?_|refine gdfn_neg (by first|assumption|omega) ?_|refine gdfn_split (fun hg => ?_) (fun hg => ?_)|refine gdtbn_pos (by assumption) ?_|refine gdtbn_neg (by assumption) ?_|refine gdfbn_pos (by assumption) ?_|refine gdfbn_neg (by assumption) ?_|refine gdtb_pos (by assumption) ?_|refine gdtb_neg (by assumption) ?_|refine gdtb_split (fun hg => ?_) (fun hg => ?_)|refine gdfb_pos (by assumption) ?_|refine gdfb_neg (by assumption) ?_|refine gdfb_split (fun hg => ?_) (fun hg => ?_)|refine pickT ?_|refine pickF ?_|refine pick_pos (by first|assumption|omega) ?_|refine pick_neg (by first|assumption|omega) ?_|refine pickn_pos (by first|assumption|omega) ?_|refine pickn_neg (by first|assumption|omega) ?_|refine pickbn_pos (by assumption) ?_|refine pickbn_neg (by assumption) ?_|refine pickb_pos (by assumption) ?_|refine pickb_neg (by assumption) ?_|refine condT ?_|refine condF ?_|refine cond_pos (by first|assumption|omega) ?_|refine cond_neg (by first|assumption|omega) ?_|refine condM_dec (fun hg => ?_) (fun hg => ?_)|refine condn_pos (by first|assumption|omega) ?_|refine condn_neg (by first|assumption|omega) ?_|refine condM_ndec (fun hg => ?_) (fun hg => ?_)|refine condbn_pos (by assumption) ?_|refine condbn_neg (by assumption) ?_|refine condbn_split (fun hg => ?_) (fun hg => ?_)|refine condb_pos (by assumption) ?_|refine condb_neg (by assumption) ?_|refine condM_b (fun hg => ?_) (fun hg => ?_))
  | ((with_reducible refine oM_gen (fun Kv hK => ?_)); simp [go_sem, c4]; (try simp (disch := omega) only [wrapI64, wrapU8, wrapU32, wrapU64]); (first | refine hK _ _ ?_ | refine And.intro (by omega) (hK _ _ ?_)); clear hK; clear Kv)))
  all_goals (try simp_all)
theorem start_ok (d : IsDk w b A h) (k : ∀ w', IsDk w' b (startA A) h → Step w b h w' h → K (.tuple #[]) w') : callM Try.prog 25 #[dkP b] K w := by
  apply sh_25_ok
  unfold sh_25 dkP
  have c4 := d.c 4
  have f4 := d.fz 4
  simp only [dkCells] at c4
  repeat (any_goals (first
  | (with_reducible refine pureM_in ?_)
  | (with_reducible first|refine pureQ_in ?_|refine gdQ_conv (fun _ => ?_)|refine pickQT ?_|refine pickQF ?_|refine pickQ_pos (by first|assumption|omega) ?_|refine pickQ_neg (by first|assumption|omega) ?_|refine pickQn_pos (by first|assumption|omega) ?_|refine pickQn_neg (by first|assumption|omega) ?_) | ((with_reducible refine oQ_one ?_ ?_); exact ⟨_, rfl⟩) | (with_reducible first|refine And.intro (Eq.refl (α := World) _) ?_|refine forall_one ?_|refine oQ_nil ?_) | (with_reducible refine oQ_of ⟨_, rfl⟩ (fun W0 hW0 => by (refine oM_gen (fun Kv hK => ?_)); simp [go_sem]; (first | exact hK _ _ ⟨rfl, rfl⟩ | exact ⟨by omega, hK _ _ ⟨rfl, rfl⟩⟩)) ?_)
  | (with_reducible first|refine gdtT ?_|refine gdtF ?_|refine gdfF ?_|refine gdfT ?_|refine gdu ?_ _|refine gdt_pos (by first|assumption|omega) ?_|refine gdt_neg (by first|assumption|omega) ?_|refine gdt_split (fun hg => ?_) (fun hg => ?_)|refine gdf_pos (by first|assumption|omega) ?_|refine gdf_neg (by first|assumption|omega) ?_|refine gdf_split (fun hg => ?_) (fun hg => ?_)|refine gdtn_pos (by first|assumption|omega) ?_|refine gdtn_neg (by first|assumption|omega) ?_|refine gdtn_split (fun hg => ?_) (fun hg => ?_)|refine gdfn_pos (by first|assumption|omega) ?_|refine gdfn_neg (by first|assumption|omega) ?_|refine gdfn_split (fun hg => ?_) (fun hg => ?_)|refine gdtbn_pos (by assumption) ?_|refine gdtbn_neg (by assumption) ?_|refine gdfbn_pos (by assumption) ?_|refine gdfbn_neg (by assumption) ?_|refine gdtb_pos (by assumption) ?_|refine gdtb_neg (by assumption) ?_|refine gdtb_split (fun hg => ?_) (fun hg => ?_)|refine gdfb_pos (by assumption) ?_|refine gdfb_neg (by assumption) ?_|refine gdfb_split (fun hg => ?_) (fun hg => ?_)|refine pickT ?_|refine pickF ?_|refine pick_pos (by first|assumption|omega) ?_|refine pick_neg (by first|assumption|omega) ?_|refine pickn_pos (by first|assumption|omega) ?_|refine pickn_neg (by first|assumption|omega) ?_|refine pickbn_pos (by assumption) ?_|refine pickbn_neg (by assumption) ?_|refine pickb_pos (by assumption) ?_|refine pickb_neg (by assumption) ?_|refine condT ?_|refine condF ?_|refine cond_pos (by first|assumption|omega) ?_|refine cond_neg (by first|assumption|omega) ?_|refine condM_dec (fun hg => ?_) (fun hg => ?_)|refine condn_pos (by first|assumption|omega) ?_|refine condn_neg (by first|assumption|omega) ?_|refine condM_ndec (fun hg => ?_) (fun hg => ?_)|refine condbn_pos (by assumption) ?_|refine condbn_neg (by assumption) ?_|refine condbn_split (fun hg => ?_) (fun hg => ?_)|refine condb_pos (by assumption) ?_|refine condb_neg (by assumption) ?_|refine condM_b (fun hg => ?_) (fun hg => ?_))
  | ((with_reducible refine oM_gen (fun Kv hK => ?_)); simp [go_sem, c4, f4]; (try simp (disch := omega) only [wrapI64, wrapU8, wrapU32, wrapU64]); (first | refine hK _ _ ?_ | refine And.intro (by omega) (hK _ _ ?_)); clear hK; clear Kv)))
  exact k _ (d.set4 false) (step_set _ _ _ _ _)
theorem lose_ok (d : IsDk w b A h) (n : Int) (hn : n < 2 ^ 63) (k : ∀ w', IsDk w' b (loseA A n) h → Step w b h w' h → K (.tuple #[]) w') : callM Try.prog 30 #[dkP b, .int .i64 n] K w := by
  apply sh_30_ok
  unfold sh_30 dkP
  have c3 := d.c 3
  have f3 := d.fz 3
  simp only [dkCells] at c3
  repeat (any_goals (first
  | (with_reducible refine pureM_in ?_)
  | (with_reducible first|refine pureQ_in ?_|refine gdQ_conv (fun _ => ?_)|refine pickQT ?_|refine pickQF ?_|refine pickQ_pos (by first|assumption|omega) ?_|refine pickQ_neg (by first|assumption|omega) ?_|refine pickQn_pos (by first|assumption|omega) ?_|refine pickQn_neg (by first|assumption|omega) ?_) | ((with_reducible refine oQ_one ?_ ?_); exact ⟨_, rfl⟩) | (with_reducible first|refine And.intro (Eq.refl (α := World) _) ?_|refine forall_one ?_|refine oQ_nil ?_) | (with_reducible refine oQ_of ⟨_, rfl⟩ (fun W0 hW0 => by (refine oM_gen (fun Kv hK => ?_)); simp [go_sem]; (first | exact hK _ _ ⟨rfl, rfl⟩ | exact ⟨by omega, hK _ _ ⟨rfl, rfl⟩⟩)) ?_)
  | (with_reducible first|refine gdtT ?_|refine gdtF ?_|refine gdfF ?_|refine gdfT ?_|refine gdu ?_ _|refine gdt_pos (by first|assumption|omega) ?_|refine gdt_neg (by first|assumption|omega) ?_|refine gdt_split (fun hg => ?_) (fun hg => ?_)|refine gdf_pos (by first|assumption|omega) ?_|refine gdf_neg (by first|assumption|omega) ?_|refine gdf_split (fun hg => ?_) (fun hg => ?_)|refine gdtn_pos (by first|assumption|omega) ?_|refine gdtn_neg (by first|assumption|omega) ?_|refine gdtn_split (fun hg => ?_) (fun hg => ?_)|refine gdfn_pos (by first|assumption|omega) ?_|refine gdfn_neg (by first|assumption|omega) ?_|refine gdfn_split (fun hg => ?_) (fun hg => ?_)|refine gdtbn_pos (by assumption) ?_|refine gdtbn_neg (by assumption) ?_|refine gdfbn_pos (by assumption) ?_|refine gdfbn_neg (by assumption) ?_|refine gdtb_pos (by assumption) ?_|refine gdtb_neg (by assumption) ?_|refine gdtb_split (fun hg => ?_) (fun hg => ?_)|refine gdfb_pos (by assumption) ?_|refine gdfb_neg (by assumption) ?_|refine gdfb_split (fun hg => ?_) (fun hg => ?_)|refine pickT ?_|refine pickF ?_|refine pick_pos (by first|assumption|omega) ?_|refine pick_neg (by first|assumption|omega) ?_|refine pickn_pos (by first|assumption|omega) ?_|refine pickn_neg (by first|assumption|omega) ?_|refine pickbn_pos (by assumption) ?_|refine pickbn_neg (by assumption) ?_|refine pickb_pos (by assumption) ?_|refine pickb_neg (by assumption) ?_|refine condT ?_|refine condF ?_|refine cond_pos (by first|assumption|omega) ?_|refine cond_neg (by first|assumption|omega) ?_|refine condM_dec (fun hg => ?_) (fun hg => ?_)|refine condn_pos (by first|assumption|omega) ?_|refine condn_neg (by first|assumption|omega) ?_|refine condM_ndec (fun hg => ?_) (fun hg => ?_)|refine condbn_pos (by assumption) ?_|refine condbn_neg (by assumption) ?_|refine condbn_split (fun hg => ?_) (fun hg => ?_)|refine condb_pos (by assumption) ?_|refine condb_neg (by assumption) ?_|refine condM_b (fun hg => ?_) (fun hg => ?_))
  | ((with_reducible refine oM_gen (fun Kv hK => ?_)); simp [go_sem, c3, f3]; (try simp (disch := omega) only [wrapI64, wrapU8, wrapU32, wrapU64]); (first | refine hK _ _ ?_ | refine And.intro (by omega) (hK _ _ ?_)); clear hK; clear Kv)))
  exact k _ (d.set3 (max n 0) (by omega)) (step_set _ _ _ _ _)
theorem ends_ok (d : IsDk w b A h) (k : ∀ w', IsDk w' b (endsA A).2 h → Step w b h w' h → K (.bool (endsA A).1) w') : callM Try.prog 42 #[dkP b] K w := by
  apply sh_42_ok
  unfold sh_42 dkP
  have c4 := d.c 4
  have c5 := d.c 5
  have f5 := d.fz 5
  simp only [dkCells] at c4 c5
  have a0 := d.wf.a0
  have a1 := d.wf.a1
  unfold endsA at k
  repeat (any_goals (first
  | (with_reducible refine pureM_in ?_)
  | (with_reducible first|refine pureQ_in ?_|refine gdQ_conv (fun _ => ?_)|refine pickQT ?_|refine pickQF ?_|refine pickQ_pos (by first|assumption|omega) ?_|refine pickQ_neg (by first|assumption|omega) ?_|refine pickQn_pos (by first|assumption|omega) ?_|refine pickQn_neg (by first|assumption|omega) ?_) | ((with_reducible refine oQ_one ?_ ?_); exact ⟨_, rfl⟩) | (with_reducible first|refine And.intro (Eq.refl (α := World) _) ?_|refine forall_one ?_|refine oQ_nil ?_) | (with_reducible refine oQ_of ⟨_, rfl⟩ (fun W0 hW0 => by (refine oM_gen (fun Kv hK => ?_)); simp [go_sem]; (first | exact hK _ _ ⟨rfl, rfl⟩ | exact ⟨by omega, hK _ _ ⟨rfl, rfl⟩⟩)) ?_)
  | (with_reducible first|refine gdtT ?_|refine gdtF ?_|refine gdfF ?_|refine gdfT ?_|refine gdu ?_ _|refine gdt_pos (by first|assumption|omega) ?_|refine gdt_neg (by first|assumption|omega) ?_|refine gdt_split (fun hg => ?_) (fun hg => ?_)|refine gdf_pos (by first|assumption|omega) ?_|refine gdf_neg (by first|assumption|omega) ?_|refine gdf_split (fun hg => ?_) (fun hg => ?_)|refine gdtn_pos (by first|assumption|omega) ?_|refine gdtn_neg (by first|assumption|omega) ?_|refine gdtn_split (fun hg => ?_) (fun hg => ?_)|refine gdfn_pos (by first|assumption|omega) ?_|refine gdfn_neg (by first|assumption|omega) ?_|refine gdfn_split (fun hg => ?_) (fun hg => ?_)|refine gdtbn_pos (by assumption) ?_|refine gdtbn_neg (by assumption) ?_|refine gdfbn_pos (by assumption) ?_|refine gdfbn_neg (by assumption) ?_|refine gdtb_pos (by assumption) ?_|refine gdtb_neg (by assumption) ?_|refine gdtb_split (fun hg => ?_) (fun hg => ?_)|refine gdfb_pos (by assumption) ?_|refine gdfb_neg (by assumption) ?_|refine gdfb_split (fun hg => ?_) (fun hg => ?_)|refine pickT ?_|refine pickF ?_|refine pick_pos (by first|assumption|omega) ?_|refine pick_neg (by first|assumption|omega) ?_|refine pickn_pos (by first|assumption|omega) ?_|refine pickn_neg (by first|assumption|omega) ?_|refine pickbn_pos (by assumption) ?_|refine pickbn_neg (by assumption) ?_|refine pickb_pos (by assumption) ?_|refine pickb_neg (by assumption) ?_|refine condT ?_|refine condF ?_|refine cond_pos (by first|assumption|omega) ?_|refine cond_neg (by first|assumption|omega) ?_|refine condM_dec (fun hg => ?_) (fun hg => ?_)|refine condn_pos (by first|assumption|omega) ?_|refine condn_neg (by first|assumption|omega) ?_|refine condM_ndec (fun hg => ?_) (fun hg => ?_)|refine condbn_pos (by assumption) ?_|refine condbn_neg (by assumption) ?_|refine condbn_split (fun hg => ?_) (fun hg => ?_)|refine condb_pos (by assumption) ?_|refine condb_neg (by assumption) ?_|refine condM_b (fun hg => ?_) (fun hg => ?_))
  | ((with_reducible refine oM_gen (fun Kv hK => ?_)); simp [go_sem, c4, c5, f5]; (try simp (disch := omega) only [wrapI64, wrapU8, wrapU32, wrapU64]); (first | refine hK _ _ ?_ | refine And.intro (by omega) (hK _ _ ?_)); clear hK; clear Kv)))
  · rw [if_pos (.inl hg)] at k
    exact k _ d (Step.refl _ _ _)
  · rw [if_pos (.inr hg)] at k
    exact k _ d (Step.refl _ _ _)
  · rename_i hg2
    rw [if_neg (by rw [hg2]; simp [hg])] at k
    have e : decide (A.armed - 1 = 0) = decide (A.armed = 1) := by
      by_cases h1 : A.armed = 1
      · simp [h1]
      · have : ¬ A.armed - 1 = 0 := by omega
        simp [h1, this]
    rw [e]
    exact k _ (d.set5 (A.armed - 1) (by omega)) (step_set _ _ _ _ _)
end
end Go.Proofs
