/- CL2: a part of the proof of the seat's statements: lemmas about the given translation and plain laws. No condition of its own. -/
--Q
import Derived.Test.YtefjibjojkjiiaaDoorCL1
set_option linter.all false
namespace Go.Proofs
open Go Go.Sh Go.RowKit Go.Lib CodeSpec
set_option linter.unusedSimpArgs false
set_option maxRecDepth 10000
theorem absn_in (n : Int) (h : InR n) : InR (absn n) ∧ 0 ≤ absn n := by
  obtain ⟨h1, h2⟩ := h
  unfold absn
  split
  · exact ⟨⟨by omega, by omega⟩, by omega⟩
  · exact ⟨⟨by omega, by omega⟩, by omega⟩
structure ValFit (x : Val) : Prop where
  nums : (encNums x.l).length < 2^40
  texts : (encTexts x.t).length < 2^40
  sl : x.s.length < 2^60
  ll : x.l.length < 2^60
  tl : x.t.length < 2^60
  tls : ∀ t ∈ x.t, t.length < 2^60
theorem alloc_below (w : World) (o : Obj) : Below w.heap.size w (w.alloc o) := (Below.refl _ _).alloc (Nat.le_refl _) _
theorem write_ok (x : Val) (cs : List Value) {K : Value → World → Prop} {w : World} (hl : Laid w) (hc : ValCells w cs x) (hf : ValFit x) (k : ∀ w', Below w.heap.size w w' → K (.string ⟨(encV x).toArray⟩) w') : callM Tryd.prog 32 #[.agg cs.toArray] K w := by
  apply sh_32_ok
  unfold sh_32
  obtain ⟨vl, vt, rfl, hrl, hrt⟩ := hc.row
  have hba := alloc_below w (.cells #[.int .i64 x.kind, .int .i64 x.n, .string ⟨x.s.toArray⟩, vl, vt] 25)
  have hld := load25 (b := w.heap.size) (o := 0) (w := w.alloc (.cells #[.int .i64 x.kind, .int .i64 x.n, .string ⟨x.s.toArray⟩, vl, vt] 25)) (cs := [.int .i64 x.kind, .int .i64 x.n, .string ⟨x.s.toArray⟩, vl, vt]) rfl (fun j hj => by rw [boxed_cells]; simp)
  repeat (any_goals (first
  | (with_reducible refine pureM_in ?_)
  | (with_reducible refine pureQ_in ?_) | (with_reducible refine gdQ_conv (fun _ => ?_)) | (with_reducible refine pickQT ?_) | (with_reducible refine pickQF ?_) | (with_reducible refine pickQ_pos (by first | assumption | omega) ?_) | (with_reducible refine pickQ_neg (by first | assumption | omega) ?_) | (with_reducible refine pickQn_pos (by first | assumption | omega) ?_) | (with_reducible refine pickQn_neg (by first | assumption | omega) ?_) | ((with_reducible refine oQ_one ?_ ?_); exact ⟨_, rfl⟩) | (with_reducible refine And.intro (Eq.refl (α := World) _) ?_) | (with_reducible refine forall_one ?_) | (with_reducible refine oQ_nil ?_) | (with_reducible refine oQ_of ⟨_, rfl⟩ (fun W0 hW0 => by (refine oM_gen (fun Kv hK => ?_)); simp [go_sem]; (first | exact hK _ _ ⟨rfl, rfl⟩ | exact ⟨by omega, hK _ _ ⟨rfl, rfl⟩⟩)) ?_)
  | (with_reducible refine gdtT ?_) | (with_reducible refine gdtF ?_) | (with_reducible refine gdfF ?_) | (with_reducible refine gdfT ?_) | (with_reducible refine gdu ?_ _)
  | (with_reducible refine gdt_pos (by first | assumption | omega) ?_) | (with_reducible refine gdt_neg (by first | assumption | omega) ?_) | (with_reducible refine gdt_split (fun hg => ?_) (fun hg => ?_))
  | (with_reducible refine gdf_pos (by first | assumption | omega) ?_) | (with_reducible refine gdf_neg (by first | assumption | omega) ?_) | (with_reducible refine gdf_split (fun hg => ?_) (fun hg => ?_))
  | (with_reducible refine gdtn_pos (by first | assumption | omega) ?_) | (with_reducible refine gdtn_neg (by first | assumption | omega) ?_) | (with_reducible refine gdtn_split (fun hg => ?_) (fun hg => ?_))
  | (with_reducible refine gdfn_pos (by first | assumption | omega) ?_) | (with_reducible refine gdfn_neg (by first | assumption | omega) ?_) | (with_reducible refine gdfn_split (fun hg => ?_) (fun hg => ?_))
  | (with_reducible refine gdtbn_pos (by assumption) ?_) | (with_reducible refine gdtbn_neg (by assumption) ?_) | (with_reducible refine gdfbn_pos (by assumption) ?_) | (with_reducible refine gdfbn_neg (by assumption) ?_)
  | (with_reducible refine gdtb_pos (by assumption) ?_) | (with_reducible refine gdtb_neg (by assumption) ?_) | (with_reducible refine gdtb_split (fun hg => ?_) (fun hg => ?_))
  | (with_reducible refine gdfb_pos (by assumption) ?_) | (with_reducible refine gdfb_neg (by assumption) ?_) | (with_reducible refine gdfb_split (fun hg => ?_) (fun hg => ?_))
  | (with_reducible refine pickT ?_) | (with_reducible refine pickF ?_)
  | (with_reducible refine pick_pos (by first | assumption | omega) ?_) | (with_reducible refine pick_neg (by first | assumption | omega) ?_)
  | (with_reducible refine pickn_pos (by first | assumption | omega) ?_) | (with_reducible refine pickn_neg (by first | assumption | omega) ?_)
  | (with_reducible refine pickbn_pos (by assumption) ?_) | (with_reducible refine pickbn_neg (by assumption) ?_)
  | (with_reducible refine pickb_pos (by assumption) ?_) | (with_reducible refine pickb_neg (by assumption) ?_)
  | (with_reducible refine condT ?_) | (with_reducible refine condF ?_)
  | (with_reducible refine cond_pos (by first | assumption | omega) ?_) | (with_reducible refine cond_neg (by first | assumption | omega) ?_) | (with_reducible refine condM_dec (fun hg => ?_) (fun hg => ?_))
  | (with_reducible refine condn_pos (by first | assumption | omega) ?_) | (with_reducible refine condn_neg (by first | assumption | omega) ?_) | (with_reducible refine condM_ndec (fun hg => ?_) (fun hg => ?_))
  | (with_reducible refine condbn_pos (by assumption) ?_) | (with_reducible refine condbn_neg (by assumption) ?_) | (with_reducible refine condbn_split (fun hg => ?_) (fun hg => ?_))
  | (with_reducible refine condb_pos (by assumption) ?_) | (with_reducible refine condb_neg (by assumption) ?_) | (with_reducible refine condM_b (fun hg => ?_) (fun hg => ?_))
  | ((with_reducible refine oM_gen (fun Kv hK => ?_)); simp [go_sem, hld]; (try simp (disch := omega) only [wrapI64, wrapU8, wrapU32, wrapU64]); (first | refine hK _ _ ?_ | refine And.intro (by omega) (hK _ _ ?_)); clear hK; clear Kv)))
  refine kind_ok _ _ _ _ _ ?_
  intro w1 hb1
  have hb01 : Below w.heap.size w w1 := hba.trans (hb1.mono (by simp))
  have hcell : ∀ j, w1.cell? ⟨w.heap.size, j, none⟩ = (#[.int .i64 x.kind, .int .i64 x.n, .string ⟨x.s.toArray⟩, vl, vt] : Array Value)[j]? := fun j => by
    rw [hb1.cell (by simp)]; exact boxed_cells _ _ _ _
  have c1 := hcell 1
  have c2 := hcell 2
  have c3 := hcell 3
  have c4 := hcell 4
  have hl1 := hl.below hb01 hl.size
  simp only [List.getElem?_toArray, List.getElem?_cons_succ, List.getElem?_cons_zero] at c1 c2 c3 c4
  obtain ⟨q, hq⟩ : ∃ q, q = x.kind % 5 := ⟨_, rfl⟩
  have hq0 : 0 ≤ q ∧ q < 5 := by omega
  have hk : ∀ w' e, Below w1.heap.size w1 w' → encV x = e → K (.string ⟨e.toArray⟩) w' := fun w' e hb he => by rw [← he]; exact k w' (hb01.trans (hb.mono hb01.size))
  have henc : encV x = if q = 0 then encNum (absn x.n) else if q = 1 then encInt x.n else if q = 2 then encText x.s else if q = 3 then encNums x.l else encTexts x.t := by rw [hq]; rfl
  rw [← hq]
  have ha := absn_in x.n hc.nin
  clear hcell hld
  have h1' := hrl.below hb01
  have h2' := hrt.below hb01
  by_cases hq1 : q = 0
  · subst hq1
    repeat (any_goals (first
    | (with_reducible refine pureM_in ?_)
    | (with_reducible refine pureQ_in ?_) | (with_reducible refine gdQ_conv (fun _ => ?_)) | (with_reducible refine pickQT ?_) | (with_reducible refine pickQF ?_) | (with_reducible refine pickQ_pos (by first | assumption | omega) ?_) | (with_reducible refine pickQ_neg (by first | assumption | omega) ?_) | (with_reducible refine pickQn_pos (by first | assumption | omega) ?_) | (with_reducible refine pickQn_neg (by first | assumption | omega) ?_) | ((with_reducible refine oQ_one ?_ ?_); exact ⟨_, rfl⟩) | (with_reducible refine And.intro (Eq.refl (α := World) _) ?_) | (with_reducible refine forall_one ?_) | (with_reducible refine oQ_nil ?_) | (with_reducible refine oQ_of ⟨_, rfl⟩ (fun W0 hW0 => by (refine oM_gen (fun Kv hK => ?_)); simp [go_sem]; (first | exact hK _ _ ⟨rfl, rfl⟩ | exact ⟨by omega, hK _ _ ⟨rfl, rfl⟩⟩)) ?_)
    | (with_reducible refine gdtT ?_) | (with_reducible refine gdtF ?_) | (with_reducible refine gdfF ?_) | (with_reducible refine gdfT ?_) | (with_reducible refine gdu ?_ _)
    | (with_reducible refine gdt_pos (by first | assumption | omega) ?_) | (with_reducible refine gdt_neg (by first | assumption | omega) ?_) | (with_reducible refine gdt_split (fun hg => ?_) (fun hg => ?_))
    | (with_reducible refine gdf_pos (by first | assumption | omega) ?_) | (with_reducible refine gdf_neg (by first | assumption | omega) ?_) | (with_reducible refine gdf_split (fun hg => ?_) (fun hg => ?_))
    | (with_reducible refine gdtn_pos (by first | assumption | omega) ?_) | (with_reducible refine gdtn_neg (by first | assumption | omega) ?_) | (with_reducible refine gdtn_split (fun hg => ?_) (fun hg => ?_))
    | (with_reducible refine gdfn_pos (by first | assumption | omega) ?_) | (with_reducible refine gdfn_neg (by first | assumption | omega) ?_) | (with_reducible refine gdfn_split (fun hg => ?_) (fun hg => ?_))
    | (with_reducible refine gdtbn_pos (by assumption) ?_) | (with_reducible refine gdtbn_neg (by assumption) ?_) | (with_reducible refine gdfbn_pos (by assumption) ?_) | (with_reducible refine gdfbn_neg (by assumption) ?_)
    | (with_reducible refine gdtb_pos (by assumption) ?_) | (with_reducible refine gdtb_neg (by assumption) ?_) | (with_reducible refine gdtb_split (fun hg => ?_) (fun hg => ?_))
    | (with_reducible refine gdfb_pos (by assumption) ?_) | (with_reducible refine gdfb_neg (by assumption) ?_) | (with_reducible refine gdfb_split (fun hg => ?_) (fun hg => ?_))
    | (with_reducible refine pickT ?_) | (with_reducible refine pickF ?_)
    | (with_reducible refine pick_pos (by first | assumption | omega) ?_) | (with_reducible refine pick_neg (by first | assumption | omega) ?_)
    | (with_reducible refine pickn_pos (by first | assumption | omega) ?_) | (with_reducible refine pickn_neg (by first | assumption | omega) ?_)
    | (with_reducible refine pickbn_pos (by assumption) ?_) | (with_reducible refine pickbn_neg (by assumption) ?_)
    | (with_reducible refine pickb_pos (by assumption) ?_) | (with_reducible refine pickb_neg (by assumption) ?_)
    | (with_reducible refine condT ?_) | (with_reducible refine condF ?_)
    | (with_reducible refine cond_pos (by first | assumption | omega) ?_) | (with_reducible refine cond_neg (by first | assumption | omega) ?_) | (with_reducible refine condM_dec (fun hg => ?_) (fun hg => ?_))
    | (with_reducible refine condn_pos (by first | assumption | omega) ?_) | (with_reducible refine condn_neg (by first | assumption | omega) ?_) | (with_reducible refine condM_ndec (fun hg => ?_) (fun hg => ?_))
    | (with_reducible refine condbn_pos (by assumption) ?_) | (with_reducible refine condbn_neg (by assumption) ?_) | (with_reducible refine condbn_split (fun hg => ?_) (fun hg => ?_))
    | (with_reducible refine condb_pos (by assumption) ?_) | (with_reducible refine condb_neg (by assumption) ?_) | (with_reducible refine condM_b (fun hg => ?_) (fun hg => ?_))
    | ((with_reducible refine oM_gen (fun Kv hK => ?_)); simp [go_sem, c1]; (try simp (disch := omega) only [wrapI64, wrapU8, wrapU32, wrapU64]); (first | refine hK _ _ ?_ | refine And.intro (by omega) (hK _ _ ?_)); clear hK; clear Kv)))
    refine number_absn _ hc.nin ?_
    repeat (any_goals (first
    | (with_reducible refine pureM_in ?_)
    | (with_reducible refine pureQ_in ?_) | (with_reducible refine gdQ_conv (fun _ => ?_)) | (with_reducible refine pickQT ?_) | (with_reducible refine pickQF ?_) | (with_reducible refine pickQ_pos (by first | assumption | omega) ?_) | (with_reducible refine pickQ_neg (by first | assumption | omega) ?_) | (with_reducible refine pickQn_pos (by first | assumption | omega) ?_) | (with_reducible refine pickQn_neg (by first | assumption | omega) ?_) | ((with_reducible refine oQ_one ?_ ?_); exact ⟨_, rfl⟩) | (with_reducible refine And.intro (Eq.refl (α := World) _) ?_) | (with_reducible refine forall_one ?_) | (with_reducible refine oQ_nil ?_) | (with_reducible refine oQ_of ⟨_, rfl⟩ (fun W0 hW0 => by (refine oM_gen (fun Kv hK => ?_)); simp [go_sem]; (first | exact hK _ _ ⟨rfl, rfl⟩ | exact ⟨by omega, hK _ _ ⟨rfl, rfl⟩⟩)) ?_)
    | (with_reducible refine gdtT ?_) | (with_reducible refine gdtF ?_) | (with_reducible refine gdfF ?_) | (with_reducible refine gdfT ?_) | (with_reducible refine gdu ?_ _)
    | (with_reducible refine gdt_pos (by first | assumption | omega) ?_) | (with_reducible refine gdt_neg (by first | assumption | omega) ?_) | (with_reducible refine gdt_split (fun hg => ?_) (fun hg => ?_))
    | (with_reducible refine gdf_pos (by first | assumption | omega) ?_) | (with_reducible refine gdf_neg (by first | assumption | omega) ?_) | (with_reducible refine gdf_split (fun hg => ?_) (fun hg => ?_))
    | (with_reducible refine gdtn_pos (by first | assumption | omega) ?_) | (with_reducible refine gdtn_neg (by first | assumption | omega) ?_) | (with_reducible refine gdtn_split (fun hg => ?_) (fun hg => ?_))
    | (with_reducible refine gdfn_pos (by first | assumption | omega) ?_) | (with_reducible refine gdfn_neg (by first | assumption | omega) ?_) | (with_reducible refine gdfn_split (fun hg => ?_) (fun hg => ?_))
    | (with_reducible refine gdtbn_pos (by assumption) ?_) | (with_reducible refine gdtbn_neg (by assumption) ?_) | (with_reducible refine gdfbn_pos (by assumption) ?_) | (with_reducible refine gdfbn_neg (by assumption) ?_)
    | (with_reducible refine gdtb_pos (by assumption) ?_) | (with_reducible refine gdtb_neg (by assumption) ?_) | (with_reducible refine gdtb_split (fun hg => ?_) (fun hg => ?_))
    | (with_reducible refine gdfb_pos (by assumption) ?_) | (with_reducible refine gdfb_neg (by assumption) ?_) | (with_reducible refine gdfb_split (fun hg => ?_) (fun hg => ?_))
    | (with_reducible refine pickT ?_) | (with_reducible refine pickF ?_)
    | (with_reducible refine pick_pos (by first | assumption | omega) ?_) | (with_reducible refine pick_neg (by first | assumption | omega) ?_)
    | (with_reducible refine pickn_pos (by first | assumption | omega) ?_) | (with_reducible refine pickn_neg (by first | assumption | omega) ?_)
    | (with_reducible refine pickbn_pos (by assumption) ?_) | (with_reducible refine pickbn_neg (by assumption) ?_)
    | (with_reducible refine pickb_pos (by assumption) ?_) | (with_reducible refine pickb_neg (by assumption) ?_)
    | (with_reducible refine condT ?_) | (with_reducible refine condF ?_)
    | (with_reducible refine cond_pos (by first | assumption | omega) ?_) | (with_reducible refine cond_neg (by first | assumption | omega) ?_) | (with_reducible refine condM_dec (fun hg => ?_) (fun hg => ?_))
    | (with_reducible refine condn_pos (by first | assumption | omega) ?_) | (with_reducible refine condn_neg (by first | assumption | omega) ?_) | (with_reducible refine condM_ndec (fun hg => ?_) (fun hg => ?_))
    | (with_reducible refine condbn_pos (by assumption) ?_) | (with_reducible refine condbn_neg (by assumption) ?_) | (with_reducible refine condbn_split (fun hg => ?_) (fun hg => ?_))
    | (with_reducible refine condb_pos (by assumption) ?_) | (with_reducible refine condb_neg (by assumption) ?_) | (with_reducible refine condM_b (fun hg => ?_) (fun hg => ?_))
    | ((with_reducible refine oM_gen (fun Kv hK => ?_)); simp [go_sem]; (try simp (disch := omega) only [wrapI64, wrapU8, wrapU32, wrapU64]); (first | refine hK _ _ ?_ | refine And.intro (by omega) (hK _ _ ?_)); clear hK; clear Kv)))
    exact pNum_ok _ ha.1 hl1 (fun w' hb => hk w' _ hb henc)
  by_cases hq2 : q = 1
  · subst hq2
    repeat (any_goals (first
    | (with_reducible refine pureM_in ?_)
    | (with_reducible refine pureQ_in ?_) | (with_reducible refine gdQ_conv (fun _ => ?_)) | (with_reducible refine pickQT ?_) | (with_reducible refine pickQF ?_) | (with_reducible refine pickQ_pos (by first | assumption | omega) ?_) | (with_reducible refine pickQ_neg (by first | assumption | omega) ?_) | (with_reducible refine pickQn_pos (by first | assumption | omega) ?_) | (with_reducible refine pickQn_neg (by first | assumption | omega) ?_) | ((with_reducible refine oQ_one ?_ ?_); exact ⟨_, rfl⟩) | (with_reducible refine And.intro (Eq.refl (α := World) _) ?_) | (with_reducible refine forall_one ?_) | (with_reducible refine oQ_nil ?_) | (with_reducible refine oQ_of ⟨_, rfl⟩ (fun W0 hW0 => by (refine oM_gen (fun Kv hK => ?_)); simp [go_sem]; (first | exact hK _ _ ⟨rfl, rfl⟩ | exact ⟨by omega, hK _ _ ⟨rfl, rfl⟩⟩)) ?_)
    | (with_reducible refine gdtT ?_) | (with_reducible refine gdtF ?_) | (with_reducible refine gdfF ?_) | (with_reducible refine gdfT ?_) | (with_reducible refine gdu ?_ _)
    | (with_reducible refine gdt_pos (by first | assumption | omega) ?_) | (with_reducible refine gdt_neg (by first | assumption | omega) ?_) | (with_reducible refine gdt_split (fun hg => ?_) (fun hg => ?_))
    | (with_reducible refine gdf_pos (by first | assumption | omega) ?_) | (with_reducible refine gdf_neg (by first | assumption | omega) ?_) | (with_reducible refine gdf_split (fun hg => ?_) (fun hg => ?_))
    | (with_reducible refine gdtn_pos (by first | assumption | omega) ?_) | (with_reducible refine gdtn_neg (by first | assumption | omega) ?_) | (with_reducible refine gdtn_split (fun hg => ?_) (fun hg => ?_))
    | (with_reducible refine gdfn_pos (by first | assumption | omega) ?_) | (with_reducible refine gdfn_neg (by first | assumption | omega) ?_) | (with_reducible refine gdfn_split (fun hg => ?_) (fun hg => ?_))
    | (with_reducible refine gdtbn_pos (by assumption) ?_) | (with_reducible refine gdtbn_neg (by assumption) ?_) | (with_reducible refine gdfbn_pos (by assumption) ?_) | (with_reducible refine gdfbn_neg (by assumption) ?_)
    | (with_reducible refine gdtb_pos (by assumption) ?_) | (with_reducible refine gdtb_neg (by assumption) ?_) | (with_reducible refine gdtb_split (fun hg => ?_) (fun hg => ?_))
    | (with_reducible refine gdfb_pos (by assumption) ?_) | (with_reducible refine gdfb_neg (by assumption) ?_) | (with_reducible refine gdfb_split (fun hg => ?_) (fun hg => ?_))
    | (with_reducible refine pickT ?_) | (with_reducible refine pickF ?_)
    | (with_reducible refine pick_pos (by first | assumption | omega) ?_) | (with_reducible refine pick_neg (by first | assumption | omega) ?_)
    | (with_reducible refine pickn_pos (by first | assumption | omega) ?_) | (with_reducible refine pickn_neg (by first | assumption | omega) ?_)
    | (with_reducible refine pickbn_pos (by assumption) ?_) | (with_reducible refine pickbn_neg (by assumption) ?_)
    | (with_reducible refine pickb_pos (by assumption) ?_) | (with_reducible refine pickb_neg (by assumption) ?_)
    | (with_reducible refine condT ?_) | (with_reducible refine condF ?_)
    | (with_reducible refine cond_pos (by first | assumption | omega) ?_) | (with_reducible refine cond_neg (by first | assumption | omega) ?_) | (with_reducible refine condM_dec (fun hg => ?_) (fun hg => ?_))
    | (with_reducible refine condn_pos (by first | assumption | omega) ?_) | (with_reducible refine condn_neg (by first | assumption | omega) ?_) | (with_reducible refine condM_ndec (fun hg => ?_) (fun hg => ?_))
    | (with_reducible refine condbn_pos (by assumption) ?_) | (with_reducible refine condbn_neg (by assumption) ?_) | (with_reducible refine condbn_split (fun hg => ?_) (fun hg => ?_))
    | (with_reducible refine condb_pos (by assumption) ?_) | (with_reducible refine condb_neg (by assumption) ?_) | (with_reducible refine condM_b (fun hg => ?_) (fun hg => ?_))
    | ((with_reducible refine oM_gen (fun Kv hK => ?_)); simp [go_sem, c1]; (try simp (disch := omega) only [wrapI64, wrapU8, wrapU32, wrapU64]); (first | refine hK _ _ ?_ | refine And.intro (by omega) (hK _ _ ?_)); clear hK; clear Kv)))
    exact pInt_ok _ hc.nin hl1 (fun w' hb => hk w' _ hb henc)
  by_cases hq3 : q = 2
  · subst hq3
    repeat (any_goals (first
    | (with_reducible refine pureM_in ?_)
    | (with_reducible refine pureQ_in ?_) | (with_reducible refine gdQ_conv (fun _ => ?_)) | (with_reducible refine pickQT ?_) | (with_reducible refine pickQF ?_) | (with_reducible refine pickQ_pos (by first | assumption | omega) ?_) | (with_reducible refine pickQ_neg (by first | assumption | omega) ?_) | (with_reducible refine pickQn_pos (by first | assumption | omega) ?_) | (with_reducible refine pickQn_neg (by first | assumption | omega) ?_) | ((with_reducible refine oQ_one ?_ ?_); exact ⟨_, rfl⟩) | (with_reducible refine And.intro (Eq.refl (α := World) _) ?_) | (with_reducible refine forall_one ?_) | (with_reducible refine oQ_nil ?_) | (with_reducible refine oQ_of ⟨_, rfl⟩ (fun W0 hW0 => by (refine oM_gen (fun Kv hK => ?_)); simp [go_sem]; (first | exact hK _ _ ⟨rfl, rfl⟩ | exact ⟨by omega, hK _ _ ⟨rfl, rfl⟩⟩)) ?_)
    | (with_reducible refine gdtT ?_) | (with_reducible refine gdtF ?_) | (with_reducible refine gdfF ?_) | (with_reducible refine gdfT ?_) | (with_reducible refine gdu ?_ _)
    | (with_reducible refine gdt_pos (by first | assumption | omega) ?_) | (with_reducible refine gdt_neg (by first | assumption | omega) ?_) | (with_reducible refine gdt_split (fun hg => ?_) (fun hg => ?_))
    | (with_reducible refine gdf_pos (by first | assumption | omega) ?_) | (with_reducible refine gdf_neg (by first | assumption | omega) ?_) | (with_reducible refine gdf_split (fun hg => ?_) (fun hg => ?_))
    | (with_reducible refine gdtn_pos (by first | assumption | omega) ?_) | (with_reducible refine gdtn_neg (by first | assumption | omega) ?_) | (with_reducible refine gdtn_split (fun hg => ?_) (fun hg => ?_))
    | (with_reducible refine gdfn_pos (by first | assumption | omega) ?_) | (with_reducible refine gdfn_neg (by first | assumption | omega) ?_) | (with_reducible refine gdfn_split (fun hg => ?_) (fun hg => ?_))
    | (with_reducible refine gdtbn_pos (by assumption) ?_) | (with_reducible refine gdtbn_neg (by assumption) ?_) | (with_reducible refine gdfbn_pos (by assumption) ?_) | (with_reducible refine gdfbn_neg (by assumption) ?_)
    | (with_reducible refine gdtb_pos (by assumption) ?_) | (with_reducible refine gdtb_neg (by assumption) ?_) | (with_reducible refine gdtb_split (fun hg => ?_) (fun hg => ?_))
    | (with_reducible refine gdfb_pos (by assumption) ?_) | (with_reducible refine gdfb_neg (by assumption) ?_) | (with_reducible refine gdfb_split (fun hg => ?_) (fun hg => ?_))
    | (with_reducible refine pickT ?_) | (with_reducible refine pickF ?_)
    | (with_reducible refine pick_pos (by first | assumption | omega) ?_) | (with_reducible refine pick_neg (by first | assumption | omega) ?_)
    | (with_reducible refine pickn_pos (by first | assumption | omega) ?_) | (with_reducible refine pickn_neg (by first | assumption | omega) ?_)
    | (with_reducible refine pickbn_pos (by assumption) ?_) | (with_reducible refine pickbn_neg (by assumption) ?_)
    | (with_reducible refine pickb_pos (by assumption) ?_) | (with_reducible refine pickb_neg (by assumption) ?_)
    | (with_reducible refine condT ?_) | (with_reducible refine condF ?_)
    | (with_reducible refine cond_pos (by first | assumption | omega) ?_) | (with_reducible refine cond_neg (by first | assumption | omega) ?_) | (with_reducible refine condM_dec (fun hg => ?_) (fun hg => ?_))
    | (with_reducible refine condn_pos (by first | assumption | omega) ?_) | (with_reducible refine condn_neg (by first | assumption | omega) ?_) | (with_reducible refine condM_ndec (fun hg => ?_) (fun hg => ?_))
    | (with_reducible refine condbn_pos (by assumption) ?_) | (with_reducible refine condbn_neg (by assumption) ?_) | (with_reducible refine condbn_split (fun hg => ?_) (fun hg => ?_))
    | (with_reducible refine condb_pos (by assumption) ?_) | (with_reducible refine condb_neg (by assumption) ?_) | (with_reducible refine condM_b (fun hg => ?_) (fun hg => ?_))
    | ((with_reducible refine oM_gen (fun Kv hK => ?_)); simp [go_sem, c2]; (try simp (disch := omega) only [wrapI64, wrapU8, wrapU32, wrapU64]); (first | refine hK _ _ ?_ | refine And.intro (by omega) (hK _ _ ?_)); clear hK; clear Kv)))
    exact pText_ok _ hf.sl hl1 (fun w' hb => hk w' _ hb henc)
  by_cases hq4 : q = 3
  · subst hq4
    repeat (any_goals (first
    | (with_reducible refine pureM_in ?_)
    | (with_reducible refine pureQ_in ?_) | (with_reducible refine gdQ_conv (fun _ => ?_)) | (with_reducible refine pickQT ?_) | (with_reducible refine pickQF ?_) | (with_reducible refine pickQ_pos (by first | assumption | omega) ?_) | (with_reducible refine pickQ_neg (by first | assumption | omega) ?_) | (with_reducible refine pickQn_pos (by first | assumption | omega) ?_) | (with_reducible refine pickQn_neg (by first | assumption | omega) ?_) | ((with_reducible refine oQ_one ?_ ?_); exact ⟨_, rfl⟩) | (with_reducible refine And.intro (Eq.refl (α := World) _) ?_) | (with_reducible refine forall_one ?_) | (with_reducible refine oQ_nil ?_) | (with_reducible refine oQ_of ⟨_, rfl⟩ (fun W0 hW0 => by (refine oM_gen (fun Kv hK => ?_)); simp [go_sem]; (first | exact hK _ _ ⟨rfl, rfl⟩ | exact ⟨by omega, hK _ _ ⟨rfl, rfl⟩⟩)) ?_)
    | (with_reducible refine gdtT ?_) | (with_reducible refine gdtF ?_) | (with_reducible refine gdfF ?_) | (with_reducible refine gdfT ?_) | (with_reducible refine gdu ?_ _)
    | (with_reducible refine gdt_pos (by first | assumption | omega) ?_) | (with_reducible refine gdt_neg (by first | assumption | omega) ?_) | (with_reducible refine gdt_split (fun hg => ?_) (fun hg => ?_))
    | (with_reducible refine gdf_pos (by first | assumption | omega) ?_) | (with_reducible refine gdf_neg (by first | assumption | omega) ?_) | (with_reducible refine gdf_split (fun hg => ?_) (fun hg => ?_))
    | (with_reducible refine gdtn_pos (by first | assumption | omega) ?_) | (with_reducible refine gdtn_neg (by first | assumption | omega) ?_) | (with_reducible refine gdtn_split (fun hg => ?_) (fun hg => ?_))
    | (with_reducible refine gdfn_pos (by first | assumption | omega) ?_) | (with_reducible refine gdfn_neg (by first | assumption | omega) ?_) | (with_reducible refine gdfn_split (fun hg => ?_) (fun hg => ?_))
    | (with_reducible refine gdtbn_pos (by assumption) ?_) | (with_reducible refine gdtbn_neg (by assumption) ?_) | (with_reducible refine gdfbn_pos (by assumption) ?_) | (with_reducible refine gdfbn_neg (by assumption) ?_)
    | (with_reducible refine gdtb_pos (by assumption) ?_) | (with_reducible refine gdtb_neg (by assumption) ?_) | (with_reducible refine gdtb_split (fun hg => ?_) (fun hg => ?_))
    | (with_reducible refine gdfb_pos (by assumption) ?_) | (with_reducible refine gdfb_neg (by assumption) ?_) | (with_reducible refine gdfb_split (fun hg => ?_) (fun hg => ?_))
    | (with_reducible refine pickT ?_) | (with_reducible refine pickF ?_)
    | (with_reducible refine pick_pos (by first | assumption | omega) ?_) | (with_reducible refine pick_neg (by first | assumption | omega) ?_)
    | (with_reducible refine pickn_pos (by first | assumption | omega) ?_) | (with_reducible refine pickn_neg (by first | assumption | omega) ?_)
    | (with_reducible refine pickbn_pos (by assumption) ?_) | (with_reducible refine pickbn_neg (by assumption) ?_)
    | (with_reducible refine pickb_pos (by assumption) ?_) | (with_reducible refine pickb_neg (by assumption) ?_)
    | (with_reducible refine condT ?_) | (with_reducible refine condF ?_)
    | (with_reducible refine cond_pos (by first | assumption | omega) ?_) | (with_reducible refine cond_neg (by first | assumption | omega) ?_) | (with_reducible refine condM_dec (fun hg => ?_) (fun hg => ?_))
    | (with_reducible refine condn_pos (by first | assumption | omega) ?_) | (with_reducible refine condn_neg (by first | assumption | omega) ?_) | (with_reducible refine condM_ndec (fun hg => ?_) (fun hg => ?_))
    | (with_reducible refine condbn_pos (by assumption) ?_) | (with_reducible refine condbn_neg (by assumption) ?_) | (with_reducible refine condbn_split (fun hg => ?_) (fun hg => ?_))
    | (with_reducible refine condb_pos (by assumption) ?_) | (with_reducible refine condb_neg (by assumption) ?_) | (with_reducible refine condM_b (fun hg => ?_) (fun hg => ?_))
    | ((with_reducible refine oM_gen (fun Kv hK => ?_)); simp [go_sem, c3]; (try simp (disch := omega) only [wrapI64, wrapU8, wrapU32, wrapU64]); (first | refine hK _ _ ?_ | refine And.intro (by omega) (hK _ _ ?_)); clear hK; clear Kv)))
    exact pNums_ok _ _ hl1 h1' hc.lin hf.nums (fun w' hb => hk w' _ hb henc)
  · rw [if_neg hq1, if_neg hq2, if_neg hq3, if_neg hq4] at henc
    repeat (any_goals (first
    | (with_reducible refine pureM_in ?_)
    | (with_reducible refine pureQ_in ?_) | (with_reducible refine gdQ_conv (fun _ => ?_)) | (with_reducible refine pickQT ?_) | (with_reducible refine pickQF ?_) | (with_reducible refine pickQ_pos (by first | assumption | omega) ?_) | (with_reducible refine pickQ_neg (by first | assumption | omega) ?_) | (with_reducible refine pickQn_pos (by first | assumption | omega) ?_) | (with_reducible refine pickQn_neg (by first | assumption | omega) ?_) | ((with_reducible refine oQ_one ?_ ?_); exact ⟨_, rfl⟩) | (with_reducible refine And.intro (Eq.refl (α := World) _) ?_) | (with_reducible refine forall_one ?_) | (with_reducible refine oQ_nil ?_) | (with_reducible refine oQ_of ⟨_, rfl⟩ (fun W0 hW0 => by (refine oM_gen (fun Kv hK => ?_)); simp [go_sem]; (first | exact hK _ _ ⟨rfl, rfl⟩ | exact ⟨by omega, hK _ _ ⟨rfl, rfl⟩⟩)) ?_)
    | (with_reducible refine gdtT ?_) | (with_reducible refine gdtF ?_) | (with_reducible refine gdfF ?_) | (with_reducible refine gdfT ?_) | (with_reducible refine gdu ?_ _)
    | (with_reducible refine gdt_pos (by first | assumption | omega) ?_) | (with_reducible refine gdt_neg (by first | assumption | omega) ?_) | (with_reducible refine gdt_split (fun hg => ?_) (fun hg => ?_))
    | (with_reducible refine gdf_pos (by first | assumption | omega) ?_) | (with_reducible refine gdf_neg (by first | assumption | omega) ?_) | (with_reducible refine gdf_split (fun hg => ?_) (fun hg => ?_))
    | (with_reducible refine gdtn_pos (by first | assumption | omega) ?_) | (with_reducible refine gdtn_neg (by first | assumption | omega) ?_) | (with_reducible refine gdtn_split (fun hg => ?_) (fun hg => ?_))
    | (with_reducible refine gdfn_pos (by first | assumption | omega) ?_) | (with_reducible refine gdfn_neg (by first | assumption | omega) ?_) | (with_reducible refine gdfn_split (fun hg => ?_) (fun hg => ?_))
    | (with_reducible refine gdtbn_pos (by assumption) ?_) | (with_reducible refine gdtbn_neg (by assumption) ?_) | (with_reducible refine gdfbn_pos (by assumption) ?_) | (with_reducible refine gdfbn_neg (by assumption) ?_)
    | (with_reducible refine gdtb_pos (by assumption) ?_) | (with_reducible refine gdtb_neg (by assumption) ?_) | (with_reducible refine gdtb_split (fun hg => ?_) (fun hg => ?_))
    | (with_reducible refine gdfb_pos (by assumption) ?_) | (with_reducible refine gdfb_neg (by assumption) ?_) | (with_reducible refine gdfb_split (fun hg => ?_) (fun hg => ?_))
    | (with_reducible refine pickT ?_) | (with_reducible refine pickF ?_)
    | (with_reducible refine pick_pos (by first | assumption | omega) ?_) | (with_reducible refine pick_neg (by first | assumption | omega) ?_)
    | (with_reducible refine pickn_pos (by first | assumption | omega) ?_) | (with_reducible refine pickn_neg (by first | assumption | omega) ?_)
    | (with_reducible refine pickbn_pos (by assumption) ?_) | (with_reducible refine pickbn_neg (by assumption) ?_)
    | (with_reducible refine pickb_pos (by assumption) ?_) | (with_reducible refine pickb_neg (by assumption) ?_)
    | (with_reducible refine condT ?_) | (with_reducible refine condF ?_)
    | (with_reducible refine cond_pos (by first | assumption | omega) ?_) | (with_reducible refine cond_neg (by first | assumption | omega) ?_) | (with_reducible refine condM_dec (fun hg => ?_) (fun hg => ?_))
    | (with_reducible refine condn_pos (by first | assumption | omega) ?_) | (with_reducible refine condn_neg (by first | assumption | omega) ?_) | (with_reducible refine condM_ndec (fun hg => ?_) (fun hg => ?_))
    | (with_reducible refine condbn_pos (by assumption) ?_) | (with_reducible refine condbn_neg (by assumption) ?_) | (with_reducible refine condbn_split (fun hg => ?_) (fun hg => ?_))
    | (with_reducible refine condb_pos (by assumption) ?_) | (with_reducible refine condb_neg (by assumption) ?_) | (with_reducible refine condM_b (fun hg => ?_) (fun hg => ?_))
    | ((with_reducible refine oM_gen (fun Kv hK => ?_)); simp [go_sem, c4]; (try simp (disch := omega) only [wrapI64, wrapU8, wrapU32, wrapU64]); (first | refine hK _ _ ?_ | refine And.intro (by omega) (hK _ _ ?_)); clear hK; clear Kv)))
    exact pTexts_ok _ _ hl1 h2' hf.tls hf.texts (fun w' hb => hk w' _ hb henc)
end Go.Proofs
