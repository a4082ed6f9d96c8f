/- DkL: a part of the proof of the seat's statements: lemmas about the given translation and plain laws. No condition of its own. -/
--Q
import Derived.Test.YtefjibjojkjiiaaDkK2
import Derived.Deep.MidRow
set_option linter.all false
namespace Go.Proofs
open Go Go.Sh Go.RowKit DkSpec
set_option linter.unusedSimpArgs false
set_option linter.unusedVariables false
set_option maxRecDepth 10000
def InR (n : Int) : Prop := -2 ^ 63 ≤ n ∧ n < 2 ^ 63
structure Act where
  k : Int
  f : Int
  n : Int
  s : Bs
  keep : List Int
def doA (A : Ab) (x : Act) : Int × Ab :=
  if x.k % 8 = 2 then syncA A x.f else if x.k % 8 = 3 then truncA A x.f x.n else if x.k % 8 = 4 then (0, loseA A (x.n % 4)) else if x.k % 8 = 5 then (0, armA A x.n x.keep)
  else if x.k % 8 = 6 then (0, crashA A x.keep) else if x.k % 8 = 7 then (0, startA A) else writeA A x.f x.n x.s
def playA (A : Ab) : List Act → Ab
  | [] => A
  | x :: l => playA (doA A x).2 l
structure ActCells (N : Nat) (w : World) (cs : List Value) (x : Act) : Prop where
  row : ∃ vk, cs = [.int .i64 x.k, .int .i64 x.f, .int .i64 x.n, bsV x.s, vk] ∧ RowN intC N w vk x.keep
  kin : InR x.k
  fin : InR x.f
  nin : InR x.n
  kr : ∀ y ∈ x.keep, InR y
theorem ActCells.below {N : Nat} {w w' : World} {cs : List Value} {x : Act} (h : ActCells N w cs x) (hb : Below N w w') : ActCells N w' cs x := by
  obtain ⟨vk, h1, h2⟩ := h.row
  exact ⟨⟨vk, h1, h2.below hb⟩, h.kin, h.fin, h.nin, h.kr⟩
def ActRow (N : Nat) (w : World) (v : Value) (l : List Act) : Prop :=
  ∃ ad c, v = .slice ad l.length c ∧ (l = [] ∨ ∃ b o, ad = some ⟨b, o, none⟩ ∧ b < N ∧ ∀ (i : Nat) (h : i < l.length), ∃ cs, ActCells N w cs l[i] ∧ cs.length = 5 ∧ ∀ j, j < 5 → w.cell? ⟨b, o + i * 5 + j, none⟩ = cs[j]?)
theorem ActRow.below {N : Nat} {w w' : World} {v : Value} {l : List Act} (h : ActRow N w v l) (hb : Below N w w') : ActRow N w' v l := by
  obtain ⟨ad, c, h1, h2⟩ := h
  refine ⟨ad, c, h1, h2.imp id ?_⟩
  rintro ⟨b, o, h3, h4, h5⟩
  refine ⟨b, o, h3, h4, fun i hi => ?_⟩
  obtain ⟨cs, h6, h7, h8⟩ := h5 i hi
  exact ⟨cs, h6.below hb, h7, fun j hj => by rw [hb.cell h4]; exact h8 j hj⟩
/-- the element at an index -/
theorem ActRow.at {N : Nat} {w : World} {v : Value} {l : List Act} (h : ActRow N w v l) {i : Nat} (hi : i < l.length) : ∃ b o c vk, v = .slice (some ⟨b, o, none⟩) l.length c ∧ RowN intC N w vk l[i].keep ∧ ActCells N w [.int .i64 l[i].k, .int .i64 l[i].f, .int .i64 l[i].n, bsV l[i].s, vk] l[i] ∧
    w.cell? ⟨b, o + i * 5, none⟩ = some (.int .i64 l[i].k) ∧ w.cell? ⟨b, o + i * 5 + 1, none⟩ = some (.int .i64 l[i].f) ∧ w.cell? ⟨b, o + i * 5 + 2, none⟩ = some (.int .i64 l[i].n) ∧ w.cell? ⟨b, o + i * 5 + 3, none⟩ = some (bsV l[i].s) ∧ w.cell? ⟨b, o + i * 5 + 4, none⟩ = some vk := by
  obtain ⟨ad, c, rfl, h2⟩ := h
  rcases h2 with rfl | ⟨b, o, rfl, hb, hc⟩
  · simp at hi
  · obtain ⟨cs, h6, h7, h8⟩ := hc i hi
    obtain ⟨vk, rfl, hr⟩ := h6.row
    exact ⟨b, o, c, vk, rfl, hr, h6, h8 0 (by omega), h8 1 (by omega), h8 2 (by omega), h8 3 (by omega), h8 4 (by omega)⟩
theorem ActRow.len {N : Nat} {w : World} {v : Value} {l : List Act} (h : ActRow N w v l) : ∃ a c, v = .slice a l.length c := by
  obtain ⟨ad, c, rfl, _⟩ := h; exact ⟨ad, c, rfl⟩
theorem idxAct {b o n c k : Nat} (hk : k < n) (w : World) : (Instr.indexAt 22 (.slice (some ⟨b, o, none⟩) n c) (.int .i64 k)).run Try.prog w = .ok (.pointer (some ⟨b, o + k * 5, none⟩)) w := by
  rw [run_indexAt_slice (h := by kernel_rfl), if_pos (by omega)]
  have hs : (sizeOf (Try.prog.elem 22)).run Try.prog w = .ok 5 w := by kernel_rfl
  rw [hs]
  simp only [Result.andThen, Int.toNat_natCast, add_none]
theorem loadAct {w : World} {b o : Nat} {v0 v1 v2 v3 v4 : Value} (c0 : w.cell? ⟨b, o, none⟩ = some v0) (c1 : w.cell? ⟨b, o + 1, none⟩ = some v1) (c2 : w.cell? ⟨b, o + 2, none⟩ = some v2) (c3 : w.cell? ⟨b, o + 3, none⟩ = some v3) (c4 : w.cell? ⟨b, o + 4, none⟩ = some v4) : (Instr.loadAt 33 (.pointer (some ⟨b, o, none⟩))).run Try.prog w = .ok (.agg #[v0, v1, v2, v3, v4]) w := by
  refine run_loadAt_mid w b o 33 [v0, v1, v2, v3, v4] _ ?_ Try.underlying33 rfl (by kernel_rfl)
  intro j v hj
  match j, hj with
  | 0, hj => rw [← hj]; exact c0
  | 1, hj => rw [← hj]; exact c1
  | 2, hj => rw [← hj]; exact c2
  | 3, hj => rw [← hj]; exact c3
  | 4, hj => rw [← hj]; exact c4
def FewL (l : List Act) : Prop := l.length ≤ 40 ∧ ∀ x ∈ l, x.s.length ≤ 300 ∧ x.keep.length ≤ 60
section
variable {n : Nat} {w w1 : World} {b b' : Nat} {A A' A1 : Ab} {h h' h1 : Dk} {K : Value → World → Prop}
set_option maxHeartbeats 1000000 in
theorem few_ok {N : Nat} {v : Value} {l : List Act} (hr : ActRow N w v l) (k : ∀ t, (t = true → FewL l) → K (.bool t) w) : callM Try.prog 8 #[v] K w := by
  apply sh_8_ok
  unfold sh_8
  obtain ⟨va, vc, hv⟩ := hr.len
  rw [hv] at hr ⊢
  repeat (any_goals (first
  | (with_reducible refine pureM_in ?_)
  | (with_reducible first|refine pureQ_in ?_|refine gdQ_conv (fun _ => ?_)|refine pickQT ?_|refine pickQF ?_|refine pickQ_pos (by first|assumption|omega) ?_|refine pickQ_neg (by first|assumption|omega) ?_|refine pickQn_pos (by first|assumption|omega) ?_|refine pickQn_neg (by first|assumption|omega) ?_) | ((with_reducible refine oQ_one ?_ ?_); exact ⟨_, rfl⟩) | (with_reducible first|refine And.intro (Eq.refl (α := World) _) ?_|refine forall_one ?_|refine oQ_nil ?_) | (with_reducible refine oQ_of ⟨_, rfl⟩ (fun W0 hW0 => by (refine oM_gen (fun Kv hK => ?_)); simp [go_sem]; (first | exact hK _ _ ⟨rfl, rfl⟩ | exact ⟨by omega, hK _ _ ⟨rfl, rfl⟩⟩)) ?_)
  | (with_reducible first|refine gdtT ?_|refine gdtF ?_|refine gdfF ?_|refine gdfT ?_|refine gdu ?_ _|refine gdt_pos (by first|assumption|omega) ?_|refine gdt_neg (by first|assumption|omega) ?_|refine gdt_split (fun hg => ?_) (fun hg => ?_)|refine gdf_pos (by first|assumption|omega) ?_|refine gdf_neg (by first|assumption|omega) ?_|refine gdf_split (fun hg => ?_) (fun hg => ?_)|refine gdtn_pos (by first|assumption|omega) ?_|refine gdtn_neg (by first|assumption|omega) ?_|refine gdtn_split (fun hg => ?_) (fun hg => ?_)|refine gdfn_pos (by first|assumption|omega) ?_|refine gdfn_neg (by first|assumption|omega) ?_|refine gdfn_split (fun hg => ?_) (fun hg => ?_)|refine gdtbn_pos (by assumption) ?_|refine gdtbn_neg (by assumption) ?_|refine gdfbn_pos (by assumption) ?_|refine gdfbn_neg (by assumption) ?_|refine gdtb_pos (by assumption) ?_|refine gdtb_neg (by assumption) ?_|refine gdtb_split (fun hg => ?_) (fun hg => ?_)|refine gdfb_pos (by assumption) ?_|refine gdfb_neg (by assumption) ?_|refine gdfb_split (fun hg => ?_) (fun hg => ?_)|refine pickT ?_|refine pickF ?_|refine pick_pos (by first|assumption|omega) ?_|refine pick_neg (by first|assumption|omega) ?_|refine pickn_pos (by first|assumption|omega) ?_|refine pickn_neg (by first|assumption|omega) ?_|refine pickbn_pos (by assumption) ?_|refine pickbn_neg (by assumption) ?_|refine pickb_pos (by assumption) ?_|refine pickb_neg (by assumption) ?_|refine condT ?_|refine condF ?_|refine cond_pos (by first|assumption|omega) ?_|refine cond_neg (by first|assumption|omega) ?_|refine condM_dec (fun hg => ?_) (fun hg => ?_)|refine condn_pos (by first|assumption|omega) ?_|refine condn_neg (by first|assumption|omega) ?_|refine condM_ndec (fun hg => ?_) (fun hg => ?_)|refine condbn_pos (by assumption) ?_|refine condbn_neg (by assumption) ?_|refine condbn_split (fun hg => ?_) (fun hg => ?_)|refine condb_pos (by assumption) ?_|refine condb_neg (by assumption) ?_|refine condM_b (fun hg => ?_) (fun hg => ?_))
  | ((with_reducible refine oM_gen (fun Kv hK => ?_)); simp [go_sem]; (try simp (disch := omega) only [wrapI64, wrapU8, wrapU32, wrapU64]); (first | refine hK _ _ ?_ | refine And.intro (by omega) (hK _ _ ?_)); clear hK; clear Kv)))
  · exact k false (fun h => by cases h)
  refine ⟨fun l' w' => w' = w ∧ ∃ (u : Value) (i : Nat), l' = [u, .int .i64 (i : Int)] ∧ i ≤ l.length ∧ ∀ x ∈ l.take i, x.s.length ≤ 300 ∧ x.keep.length ≤ 60, fun l' _ => match l' with | [_, .int _ m] => ((l.length : Int) - m).toNat | _ => 0, ⟨rfl, _, 0, rfl, by omega, by simp⟩, ?_⟩
  rintro l' u w1 ⟨rfl, u1, i, rfl, hi, hpre⟩
  simp only [List.getD_cons_zero, List.getD_cons_succ]
  repeat (any_goals (first
  | (with_reducible refine pureM_in ?_)
  | (with_reducible first|refine pureQ_in ?_|refine gdQ_conv (fun _ => ?_)|refine pickQT ?_|refine pickQF ?_|refine pickQ_pos (by first|assumption|omega) ?_|refine pickQ_neg (by first|assumption|omega) ?_|refine pickQn_pos (by first|assumption|omega) ?_|refine pickQn_neg (by first|assumption|omega) ?_) | ((with_reducible refine oQ_one ?_ ?_); exact ⟨_, rfl⟩) | (with_reducible first|refine And.intro (Eq.refl (α := World) _) ?_|refine forall_one ?_|refine oQ_nil ?_) | (with_reducible refine oQ_of ⟨_, rfl⟩ (fun W0 hW0 => by (refine oM_gen (fun Kv hK => ?_)); simp [go_sem]; (first | exact hK _ _ ⟨rfl, rfl⟩ | exact ⟨by omega, hK _ _ ⟨rfl, rfl⟩⟩)) ?_)
  | (with_reducible first|refine gdtT ?_|refine gdtF ?_|refine gdfF ?_|refine gdfT ?_|refine gdu ?_ _|refine gdt_pos (by first|assumption|omega) ?_|refine gdt_neg (by first|assumption|omega) ?_|refine gdt_split (fun hg => ?_) (fun hg => ?_)|refine gdf_pos (by first|assumption|omega) ?_|refine gdf_neg (by first|assumption|omega) ?_|refine gdf_split (fun hg => ?_) (fun hg => ?_)|refine gdtn_pos (by first|assumption|omega) ?_|refine gdtn_neg (by first|assumption|omega) ?_|refine gdtn_split (fun hg => ?_) (fun hg => ?_)|refine gdfn_pos (by first|assumption|omega) ?_|refine gdfn_neg (by first|assumption|omega) ?_|refine gdfn_split (fun hg => ?_) (fun hg => ?_)|refine gdtbn_pos (by assumption) ?_|refine gdtbn_neg (by assumption) ?_|refine gdfbn_pos (by assumption) ?_|refine gdfbn_neg (by assumption) ?_|refine gdtb_pos (by assumption) ?_|refine gdtb_neg (by assumption) ?_|refine gdtb_split (fun hg => ?_) (fun hg => ?_)|refine gdfb_pos (by assumption) ?_|refine gdfb_neg (by assumption) ?_|refine gdfb_split (fun hg => ?_) (fun hg => ?_)|refine pickT ?_|refine pickF ?_|refine pick_pos (by first|assumption|omega) ?_|refine pick_neg (by first|assumption|omega) ?_|refine pickn_pos (by first|assumption|omega) ?_|refine pickn_neg (by first|assumption|omega) ?_|refine pickbn_pos (by assumption) ?_|refine pickbn_neg (by assumption) ?_|refine pickb_pos (by assumption) ?_|refine pickb_neg (by assumption) ?_|refine condT ?_|refine condF ?_|refine cond_pos (by first|assumption|omega) ?_|refine cond_neg (by first|assumption|omega) ?_|refine condM_dec (fun hg => ?_) (fun hg => ?_)|refine condn_pos (by first|assumption|omega) ?_|refine condn_neg (by first|assumption|omega) ?_|refine condM_ndec (fun hg => ?_) (fun hg => ?_)|refine condbn_pos (by assumption) ?_|refine condbn_neg (by assumption) ?_|refine condbn_split (fun hg => ?_) (fun hg => ?_)|refine condb_pos (by assumption) ?_|refine condb_neg (by assumption) ?_|refine condM_b (fun hg => ?_) (fun hg => ?_))
  | ((with_reducible refine oM_gen (fun Kv hK => ?_)); simp [go_sem]; (try simp (disch := omega) only [wrapI64, wrapU8, wrapU32, wrapU64]); (first | refine hK _ _ ?_ | refine And.intro (by omega) (hK _ _ ?_)); clear hK; clear Kv)))
  · have hlt : i < l.length := by omega
    obtain ⟨b, o, c, vk, he, hrk, hcs, c0, c1, c2, c3, c4⟩ := hr.at hlt
    cases he
    have hix := idxAct (b := b) (o := o) (c := vc) hlt w1
    obtain ⟨ad, kc, rfl, _⟩ := hrk
    have fin : l[i].s.length ≤ 300 → l[i].keep.length ≤ 60 → ∀ x ∈ l.take (i + 1), x.s.length ≤ 300 ∧ x.keep.length ≤ 60 := by
      intro h1 h2 x hx
      rw [List.take_succ_eq_append_getElem hlt] at hx
      rcases List.mem_append.1 hx with hx | hx
      · exact hpre x hx
      · simp only [List.mem_singleton] at hx
        rw [hx]; exact ⟨h1, h2⟩
    repeat (any_goals (first
    | (with_reducible refine pureM_in ?_)
    | (with_reducible first|refine pureQ_in ?_|refine gdQ_conv (fun _ => ?_)|refine pickQT ?_|refine pickQF ?_|refine pickQ_pos (by first|assumption|omega) ?_|refine pickQ_neg (by first|assumption|omega) ?_|refine pickQn_pos (by first|assumption|omega) ?_|refine pickQn_neg (by first|assumption|omega) ?_) | ((with_reducible refine oQ_one ?_ ?_); exact ⟨_, rfl⟩) | (with_reducible first|refine And.intro (Eq.refl (α := World) _) ?_|refine forall_one ?_|refine oQ_nil ?_) | (with_reducible refine oQ_of ⟨_, rfl⟩ (fun W0 hW0 => by (refine oM_gen (fun Kv hK => ?_)); simp [go_sem]; (first | exact hK _ _ ⟨rfl, rfl⟩ | exact ⟨by omega, hK _ _ ⟨rfl, rfl⟩⟩)) ?_)
    | (with_reducible first|refine gdtT ?_|refine gdtF ?_|refine gdfF ?_|refine gdfT ?_|refine gdu ?_ _|refine gdt_pos (by first|assumption|omega) ?_|refine gdt_neg (by first|assumption|omega) ?_|refine gdt_split (fun hg => ?_) (fun hg => ?_)|refine gdf_pos (by first|assumption|omega) ?_|refine gdf_neg (by first|assumption|omega) ?_|refine gdf_split (fun hg => ?_) (fun hg => ?_)|refine gdtn_pos (by first|assumption|omega) ?_|refine gdtn_neg (by first|assumption|omega) ?_|refine gdtn_split (fun hg => ?_) (fun hg => ?_)|refine gdfn_pos (by first|assumption|omega) ?_|refine gdfn_neg (by first|assumption|omega) ?_|refine gdfn_split (fun hg => ?_) (fun hg => ?_)|refine gdtbn_pos (by assumption) ?_|refine gdtbn_neg (by assumption) ?_|refine gdfbn_pos (by assumption) ?_|refine gdfbn_neg (by assumption) ?_|refine gdtb_pos (by assumption) ?_|refine gdtb_neg (by assumption) ?_|refine gdtb_split (fun hg => ?_) (fun hg => ?_)|refine gdfb_pos (by assumption) ?_|refine gdfb_neg (by assumption) ?_|refine gdfb_split (fun hg => ?_) (fun hg => ?_)|refine pickT ?_|refine pickF ?_|refine pick_pos (by first|assumption|omega) ?_|refine pick_neg (by first|assumption|omega) ?_|refine pickn_pos (by first|assumption|omega) ?_|refine pickn_neg (by first|assumption|omega) ?_|refine pickbn_pos (by assumption) ?_|refine pickbn_neg (by assumption) ?_|refine pickb_pos (by assumption) ?_|refine pickb_neg (by assumption) ?_|refine condT ?_|refine condF ?_|refine cond_pos (by first|assumption|omega) ?_|refine cond_neg (by first|assumption|omega) ?_|refine condM_dec (fun hg => ?_) (fun hg => ?_)|refine condn_pos (by first|assumption|omega) ?_|refine condn_neg (by first|assumption|omega) ?_|refine condM_ndec (fun hg => ?_) (fun hg => ?_)|refine condbn_pos (by assumption) ?_|refine condbn_neg (by assumption) ?_|refine condbn_split (fun hg => ?_) (fun hg => ?_)|refine condb_pos (by assumption) ?_|refine condb_neg (by assumption) ?_|refine condM_b (fun hg => ?_) (fun hg => ?_))
    | ((with_reducible refine oM_gen (fun Kv hK => ?_)); simp [go_sem, hix, c0, c1, c2, c3, c4]; (try simp (disch := omega) only [wrapI64, wrapU8, wrapU32, wrapU64]); (first | refine hK _ _ ?_ | refine And.intro (by omega) (hK _ _ ?_)); clear hK; clear Kv)))
    · exact k false (fun h => by cases h)
    · exact k false (fun h => by cases h)
    · exact k false (fun h => by cases h)
    · exact k false (fun h => by cases h)
    · have hfin := fin (by omega) (by omega)
      clear fin hix c0 c1 c2 c3 c4 hcs hpre
      refine ⟨⟨rfl, _, i + 1, rfl, hlt, hfin⟩, ?_⟩
      show ((l.length : Int) - ((i : Int) + 1)).toNat < ((l.length : Int) - (i : Int)).toNat
      omega
    · have hfin := fin (by omega) (by omega)
      clear fin hix c0 c1 c2 c3 c4 hcs hpre
      refine ⟨⟨rfl, _, i + 1, rfl, hlt, hfin⟩, ?_⟩
      show ((l.length : Int) - ((i : Int) + 1)).toNat < ((l.length : Int) - (i : Int)).toNat
      omega
  · refine k true (fun _ => ⟨by omega, ?_⟩)
    rw [List.take_of_length_le (by omega)] at hpre
    exact hpre
theorem doA_wf {A : Ab} (h : WF A) (x : Act) (hn : InR x.n) (hk : ∀ y ∈ x.keep, InR y) (hl : x.keep.length < 2 ^ 62) : WF (doA A x).2 := by
  unfold doA
  have := hn.2
  repeat' split
  · exact syncA_wf h _
  · exact truncA_wf h _ _
  · exact loseA_wf h _ (by omega)
  · exact armA_wf h _ hn.2 _ hk hl
  · exact crashA_wf h _
  · exact startA_wf h
  · exact writeA_wf h _ _ _
set_option maxHeartbeats 1000000 in
theorem do_ok {N : Nat} (d : IsDk w b A h) (ho : ∀ i, Own b h i → N ≤ i) {x : Act} {vk : Value} (hc : ActCells N w [.int .i64 x.k, .int .i64 x.f, .int .i64 x.n, bsV x.s, vk] x) (hs : x.s.length ≤ 300) (hl : x.keep.length ≤ 60) (k : ∀ w' h', IsDk w' b (doA A x).2 h' → Step w b h w' h' → K (.int .i64 (doA A x).1) w') : callM Try.prog 11 #[dkP b, .agg #[.int .i64 x.k, .int .i64 x.f, .int .i64 x.n, bsV x.s, vk]] K w := by
  apply sh_11_ok
  unfold sh_11
  obtain ⟨vk', hvk, hrow⟩ := hc.row
  simp at hvk
  subst hvk
  have hN : N ≤ w.heap.size := by have := ho b (.inl rfl); have := d.lt (.inl (.inl rfl)); omega
  repeat (any_goals (first
  | (with_reducible refine pureM_in ?_)
  | (with_reducible first|refine pureQ_in ?_|refine gdQ_conv (fun _ => ?_)|refine pickQT ?_|refine pickQF ?_|refine pickQ_pos (by first|assumption|omega) ?_|refine pickQ_neg (by first|assumption|omega) ?_|refine pickQn_pos (by first|assumption|omega) ?_|refine pickQn_neg (by first|assumption|omega) ?_) | ((with_reducible refine oQ_one ?_ ?_); exact ⟨_, rfl⟩) | (with_reducible first|refine And.intro (Eq.refl (α := World) _) ?_|refine forall_one ?_|refine oQ_nil ?_) | (with_reducible refine oQ_of ⟨_, rfl⟩ (fun W0 hW0 => by (refine oM_gen (fun Kv hK => ?_)); simp [go_sem]; (first | exact hK _ _ ⟨rfl, rfl⟩ | exact ⟨by omega, hK _ _ ⟨rfl, rfl⟩⟩)) ?_)
  | (with_reducible first|refine gdtT ?_|refine gdtF ?_|refine gdfF ?_|refine gdfT ?_|refine gdu ?_ _|refine gdt_pos (by first|assumption|omega) ?_|refine gdt_neg (by first|assumption|omega) ?_|refine gdt_split (fun hg => ?_) (fun hg => ?_)|refine gdf_pos (by first|assumption|omega) ?_|refine gdf_neg (by first|assumption|omega) ?_|refine gdf_split (fun hg => ?_) (fun hg => ?_)|refine gdtn_pos (by first|assumption|omega) ?_|refine gdtn_neg (by first|assumption|omega) ?_|refine gdtn_split (fun hg => ?_) (fun hg => ?_)|refine gdfn_pos (by first|assumption|omega) ?_|refine gdfn_neg (by first|assumption|omega) ?_|refine gdfn_split (fun hg => ?_) (fun hg => ?_)|refine gdtbn_pos (by assumption) ?_|refine gdtbn_neg (by assumption) ?_|refine gdfbn_pos (by assumption) ?_|refine gdfbn_neg (by assumption) ?_|refine gdtb_pos (by assumption) ?_|refine gdtb_neg (by assumption) ?_|refine gdtb_split (fun hg => ?_) (fun hg => ?_)|refine gdfb_pos (by assumption) ?_|refine gdfb_neg (by assumption) ?_|refine gdfb_split (fun hg => ?_) (fun hg => ?_)|refine pickT ?_|refine pickF ?_|refine pick_pos (by first|assumption|omega) ?_|refine pick_neg (by first|assumption|omega) ?_|refine pickn_pos (by first|assumption|omega) ?_|refine pickn_neg (by first|assumption|omega) ?_|refine pickbn_pos (by assumption) ?_|refine pickbn_neg (by assumption) ?_|refine pickb_pos (by assumption) ?_|refine pickb_neg (by assumption) ?_|refine condT ?_|refine condF ?_|refine cond_pos (by first|assumption|omega) ?_|refine cond_neg (by first|assumption|omega) ?_|refine condM_dec (fun hg => ?_) (fun hg => ?_)|refine condn_pos (by first|assumption|omega) ?_|refine condn_neg (by first|assumption|omega) ?_|refine condM_ndec (fun hg => ?_) (fun hg => ?_)|refine condbn_pos (by assumption) ?_|refine condbn_neg (by assumption) ?_|refine condbn_split (fun hg => ?_) (fun hg => ?_)|refine condb_pos (by assumption) ?_|refine condb_neg (by assumption) ?_|refine condM_b (fun hg => ?_) (fun hg => ?_))
  | ((with_reducible refine oM_gen (fun Kv hK => ?_)); simp [go_sem]; (try simp (disch := omega) only [wrapI64, wrapU8, wrapU32, wrapU64]); (first | refine hK _ _ ?_ | refine And.intro (by omega) (hK _ _ ?_)); clear hK; clear Kv)))
  have f0 : Fr (fun _ => False) w (w.alloc (.cells #[.int .i64 x.k, .int .i64 x.f, .int .i64 x.n, bsV x.s, vk] 33 (0, 0))) := (Fr.refl _ _).alloc _
  have n0 := heap_alloc_new w (.cells #[.int .i64 x.k, .int .i64 x.f, .int .i64 x.n, bsV x.s, vk] 33 (0, 0))
  generalize w.alloc (.cells #[.int .i64 x.k, .int .i64 x.f, .int .i64 x.n, bsV x.s, vk] 33 (0, 0)) = w0 at *
  have d0 := d.fresh f0
  have t0 : Step w b h w0 h := Step.fresh f0
  have b0 : Below N w w0 := (below_none f0).mono hN
  have hrow0 := hrow.below b0
  have k0 : ∀ w' h' r A', IsDk w' b A' h' → Step w0 b h w' h' → doA A x = (r, A') → K (.int .i64 r) w' := fun w' h' r A' d' t' e => by
    have := k w' h' (by rw [e]; exact d') (t0.trans t')
    rw [e] at this; exact this
  clear k
  have e0 := cell_of_block n0 0
  have e1 := cell_of_block n0 1
  have e2 := cell_of_block n0 2
  have e3 := cell_of_block n0 3
  have e4 := cell_of_block n0 4
  simp at e0 e1 e2 e3 e4
  have hx0 := hc.nin
  have hx1 := hc.fin
  have hx2 := hc.kin
  unfold InR at hx0 hx1 hx2
  unfold doA at k0
  refine ⟨fun _ w' => ∃ h' A', IsDk w' b A' h' ∧ Step w0 b h w' h' ∧ doA A x = (0, A'), ?_, ?_⟩
  · repeat (any_goals (first
    | (with_reducible refine pureM_in ?_)
    | (with_reducible first|refine pureQ_in ?_|refine gdQ_conv (fun _ => ?_)|refine pickQT ?_|refine pickQF ?_|refine pickQ_pos (by first|assumption|omega) ?_|refine pickQ_neg (by first|assumption|omega) ?_|refine pickQn_pos (by first|assumption|omega) ?_|refine pickQn_neg (by first|assumption|omega) ?_) | ((with_reducible refine oQ_one ?_ ?_); exact ⟨_, rfl⟩) | (with_reducible first|refine And.intro (Eq.refl (α := World) _) ?_|refine forall_one ?_|refine oQ_nil ?_) | (with_reducible refine oQ_of ⟨_, rfl⟩ (fun W0 hW0 => by (refine oM_gen (fun Kv hK => ?_)); simp [go_sem]; (first | exact hK _ _ ⟨rfl, rfl⟩ | exact ⟨by omega, hK _ _ ⟨rfl, rfl⟩⟩)) ?_)
    | (with_reducible first|refine gdtT ?_|refine gdtF ?_|refine gdfF ?_|refine gdfT ?_|refine gdu ?_ _|refine gdt_pos (by first|assumption|omega) ?_|refine gdt_neg (by first|assumption|omega) ?_|refine gdt_split (fun hg => ?_) (fun hg => ?_)|refine gdf_pos (by first|assumption|omega) ?_|refine gdf_neg (by first|assumption|omega) ?_|refine gdf_split (fun hg => ?_) (fun hg => ?_)|refine gdtn_pos (by first|assumption|omega) ?_|refine gdtn_neg (by first|assumption|omega) ?_|refine gdtn_split (fun hg => ?_) (fun hg => ?_)|refine gdfn_pos (by first|assumption|omega) ?_|refine gdfn_neg (by first|assumption|omega) ?_|refine gdfn_split (fun hg => ?_) (fun hg => ?_)|refine gdtbn_pos (by assumption) ?_|refine gdtbn_neg (by assumption) ?_|refine gdfbn_pos (by assumption) ?_|refine gdfbn_neg (by assumption) ?_|refine gdtb_pos (by assumption) ?_|refine gdtb_neg (by assumption) ?_|refine gdtb_split (fun hg => ?_) (fun hg => ?_)|refine gdfb_pos (by assumption) ?_|refine gdfb_neg (by assumption) ?_|refine gdfb_split (fun hg => ?_) (fun hg => ?_)|refine pickT ?_|refine pickF ?_|refine pick_pos (by first|assumption|omega) ?_|refine pick_neg (by first|assumption|omega) ?_|refine pickn_pos (by first|assumption|omega) ?_|refine pickn_neg (by first|assumption|omega) ?_|refine pickbn_pos (by assumption) ?_|refine pickbn_neg (by assumption) ?_|refine pickb_pos (by assumption) ?_|refine pickb_neg (by assumption) ?_|refine condT ?_|refine condF ?_|refine cond_pos (by first|assumption|omega) ?_|refine cond_neg (by first|assumption|omega) ?_|refine condM_dec (fun hg => ?_) (fun hg => ?_)|refine condn_pos (by first|assumption|omega) ?_|refine condn_neg (by first|assumption|omega) ?_|refine condM_ndec (fun hg => ?_) (fun hg => ?_)|refine condbn_pos (by assumption) ?_|refine condbn_neg (by assumption) ?_|refine condbn_split (fun hg => ?_) (fun hg => ?_)|refine condb_pos (by assumption) ?_|refine condb_neg (by assumption) ?_|refine condM_b (fun hg => ?_) (fun hg => ?_))
    | ((with_reducible refine oM_gen (fun Kv hK => ?_)); simp [go_sem, e0, e1, e2, e3, e4]; (try simp (disch := omega) only [wrapI64, wrapU8, wrapU32, wrapU64]); (first | refine hK _ _ ?_ | refine And.intro (by omega) (hK _ _ ?_)); clear hK; clear Kv)))
    · have hk := hg
      exact Sync_ok d0 x.f (fun w' h' d' t' => k0 w' h' _ _ d' t' (by rw [if_pos hk]))
    · rename_i g2
      have hk := hg
      exact Trunc_ok d0 x.f x.n (fun w' h' d' t' => k0 w' h' _ _ d' t' (by rw [if_neg g2, if_pos hk]))
    · rename_i g2 g3
      have hk := hg
      refine lose_ok d0 (x.n % 4) (by omega) (fun w' d' t' => ⟨h, _, d', t', by unfold doA; rw [if_neg g2, if_neg g3, if_pos hk]⟩)
    · rename_i g2 g3 g4
      have hk := hg
      refine arm_ok d0 x.n hx0.2 (hrow0.row (by have := b0.size; omega)) (by omega) hc.kr (fun w' h' d' t' => ⟨h', _, d', t', by unfold doA; rw [if_neg g2, if_neg g3, if_neg g4, if_pos hk]⟩)
    · rename_i g2 g3 g4 g5
      have hk := hg
      refine crash_ok d0 (hrow0.row (by have := b0.size; omega)) (by omega) (fun w' f' => ?_) (fun w' h' d' t' => ⟨h', _, d', t', by unfold doA; rw [if_neg g2, if_neg g3, if_neg g4, if_neg g5, if_pos hk]⟩)
      have hb' := below_fr f' (fun i _ hi => ho i hi) (by have := b0.size; omega)
      exact (hrow0.below hb').row (by have := b0.size; have := f'.size; omega)
    · rename_i g2 g3 g4 g5 g6
      have hk := hg
      refine start_ok d0 (fun w' d' t' => ⟨h, _, d', t', by unfold doA; rw [if_neg g2, if_neg g3, if_neg g4, if_neg g5, if_neg g6, if_pos hk]⟩)
    · rename_i g2 g3 g4 g5 g6
      have hk := hg
      exact Write_ok d0 x.f x.n x.s (by omega) (by omega) (fun w' h' d' t' => k0 w' h' _ _ d' t' (by rw [if_neg g2, if_neg g3, if_neg g4, if_neg g5, if_neg g6, if_neg hk]))
  · rintro l u w' ⟨h', A', d', t', e⟩
    exact k0 w' h' 0 A' d' t' e
end
end Go.Proofs
