/- CL6: a part of the proof of the seat's statements: lemmas about the given translation and plain laws. No condition of its own. -/
--Q
import Derived.Test.YtefjibjojkjiiaaDoorCL5
set_option linter.all false
namespace Go.Proofs
open Go Go.Sh Go.RowKit Go.Lib CodeSpec
set_option linter.unusedSimpArgs false
set_option maxRecDepth 10000
set_option maxHeartbeats 3200000 in
theorem law5_ok (l : List Val) (v : Value) {K : Value → World → Prop} {w : World} (hl : Laid w) (hrow : ValRow w v l) (k : ∀ w', Below w.heap.size w w' → K (.bool true) w') : callM Tryd.prog 5 #[v] K w := by
  apply sh_5_ok
  unfold sh_5
  refine sane_ok hl (fun w1 hb1 => ?_)
  refine few_ok l v (hrow.below hb1) (fun t w2 hb2 hfew => ?_)
  replace hb2 := hb1.trans (hb2.mono hb1.size)
  cases t with
  | false =>
    repeat (any_goals (first
    | (with_reducible refine pureM_in ?_)
    | (with_reducible refine pureQ_in ?_) | (with_reducible refine gdQ_conv (fun _ => ?_)) | (with_reducible refine pickQT ?_) | (with_reducible refine pickQF ?_) | (with_reducible refine pickQ_pos (by first | assumption | omega) ?_) | (with_reducible refine pickQ_neg (by first | assumption | omega) ?_) | (with_reducible refine pickQn_pos (by first | assumption | omega) ?_) | (with_reducible refine pickQn_neg (by first | assumption | omega) ?_) | ((with_reducible refine oQ_one ?_ ?_); exact ⟨_, rfl⟩) | (with_reducible refine And.intro (Eq.refl (α := World) _) ?_) | (with_reducible refine forall_one ?_) | (with_reducible refine oQ_nil ?_) | (with_reducible refine oQ_of ⟨_, rfl⟩ (fun W0 hW0 => by (refine oM_gen (fun Kv hK => ?_)); simp [go_sem]; (first | exact hK _ _ ⟨rfl, rfl⟩ | exact ⟨by omega, hK _ _ ⟨rfl, rfl⟩⟩)) ?_)
    | (with_reducible refine gdtT ?_) | (with_reducible refine gdtF ?_) | (with_reducible refine gdfF ?_) | (with_reducible refine gdfT ?_) | (with_reducible refine gdu ?_ _)
    | (with_reducible refine gdt_pos (by first | assumption | omega) ?_) | (with_reducible refine gdt_neg (by first | assumption | omega) ?_) | (with_reducible refine gdt_split (fun hg => ?_) (fun hg => ?_))
    | (with_reducible refine gdf_pos (by first | assumption | omega) ?_) | (with_reducible refine gdf_neg (by first | assumption | omega) ?_) | (with_reducible refine gdf_split (fun hg => ?_) (fun hg => ?_))
    | (with_reducible refine gdtn_pos (by first | assumption | omega) ?_) | (with_reducible refine gdtn_neg (by first | assumption | omega) ?_) | (with_reducible refine gdtn_split (fun hg => ?_) (fun hg => ?_))
    | (with_reducible refine gdfn_pos (by first | assumption | omega) ?_) | (with_reducible refine gdfn_neg (by first | assumption | omega) ?_) | (with_reducible refine gdfn_split (fun hg => ?_) (fun hg => ?_))
    | (with_reducible refine gdtbn_pos (by assumption) ?_) | (with_reducible refine gdtbn_neg (by assumption) ?_) | (with_reducible refine gdfbn_pos (by assumption) ?_) | (with_reducible refine gdfbn_neg (by assumption) ?_)
    | (with_reducible refine gdtb_pos (by assumption) ?_) | (with_reducible refine gdtb_neg (by assumption) ?_) | (with_reducible refine gdtb_split (fun hg => ?_) (fun hg => ?_))
    | (with_reducible refine gdfb_pos (by assumption) ?_) | (with_reducible refine gdfb_neg (by assumption) ?_) | (with_reducible refine gdfb_split (fun hg => ?_) (fun hg => ?_))
    | (with_reducible refine pickT ?_) | (with_reducible refine pickF ?_)
    | (with_reducible refine pick_pos (by first | assumption | omega) ?_) | (with_reducible refine pick_neg (by first | assumption | omega) ?_)
    | (with_reducible refine pickn_pos (by first | assumption | omega) ?_) | (with_reducible refine pickn_neg (by first | assumption | omega) ?_)
    | (with_reducible refine pickbn_pos (by assumption) ?_) | (with_reducible refine pickbn_neg (by assumption) ?_)
    | (with_reducible refine pickb_pos (by assumption) ?_) | (with_reducible refine pickb_neg (by assumption) ?_)
    | (with_reducible refine condT ?_) | (with_reducible refine condF ?_)
    | (with_reducible refine cond_pos (by first | assumption | omega) ?_) | (with_reducible refine cond_neg (by first | assumption | omega) ?_) | (with_reducible refine condM_dec (fun hg => ?_) (fun hg => ?_))
    | (with_reducible refine condn_pos (by first | assumption | omega) ?_) | (with_reducible refine condn_neg (by first | assumption | omega) ?_) | (with_reducible refine condM_ndec (fun hg => ?_) (fun hg => ?_))
    | (with_reducible refine condbn_pos (by assumption) ?_) | (with_reducible refine condbn_neg (by assumption) ?_) | (with_reducible refine condbn_split (fun hg => ?_) (fun hg => ?_))
    | (with_reducible refine condb_pos (by assumption) ?_) | (with_reducible refine condb_neg (by assumption) ?_) | (with_reducible refine condM_b (fun hg => ?_) (fun hg => ?_))
    | ((with_reducible refine oM_gen (fun Kv hK => ?_)); simp [go_sem]; (try simp (disch := omega) only [wrapI64, wrapU8, wrapU32, wrapU64]); (first | refine hK _ _ ?_ | refine And.intro (by omega) (hK _ _ ?_)); clear hK; clear Kv)))
    exact k w2 hb2
  | true =>
  obtain ⟨F1, F2⟩ := hfew rfl
  obtain ⟨ad, c, rfl, hrow⟩ := hrow
  have hev : ∀ x ∈ l, (encV x).length ≤ 200000 := by
    intro x hx
    rcases hrow with rfl | ⟨b, o, rfl, hbw, hcells⟩
    · simp at hx
    · obtain ⟨m, hm, rfl⟩ := List.mem_iff_getElem.1 hx
      obtain ⟨cs, hvc, _⟩ := hcells m hm
      exact (few_fit _ (F2 _ hx) hvc.nin hvc.lin).2
  have h6 : 6 ≤ w.heap.size := hl.size
  repeat (any_goals (first
  | (with_reducible refine pureM_in ?_)
  | (with_reducible refine pureQ_in ?_) | (with_reducible refine gdQ_conv (fun _ => ?_)) | (with_reducible refine pickQT ?_) | (with_reducible refine pickQF ?_) | (with_reducible refine pickQ_pos (by first | assumption | omega) ?_) | (with_reducible refine pickQ_neg (by first | assumption | omega) ?_) | (with_reducible refine pickQn_pos (by first | assumption | omega) ?_) | (with_reducible refine pickQn_neg (by first | assumption | omega) ?_) | ((with_reducible refine oQ_one ?_ ?_); exact ⟨_, rfl⟩) | (with_reducible refine And.intro (Eq.refl (α := World) _) ?_) | (with_reducible refine forall_one ?_) | (with_reducible refine oQ_nil ?_) | (with_reducible refine oQ_of ⟨_, rfl⟩ (fun W0 hW0 => by (refine oM_gen (fun Kv hK => ?_)); simp [go_sem]; (first | exact hK _ _ ⟨rfl, rfl⟩ | exact ⟨by omega, hK _ _ ⟨rfl, rfl⟩⟩)) ?_)
  | (with_reducible refine gdtT ?_) | (with_reducible refine gdtF ?_) | (with_reducible refine gdfF ?_) | (with_reducible refine gdfT ?_) | (with_reducible refine gdu ?_ _)
  | (with_reducible refine gdt_pos (by first | assumption | omega) ?_) | (with_reducible refine gdt_neg (by first | assumption | omega) ?_) | (with_reducible refine gdt_split (fun hg => ?_) (fun hg => ?_))
  | (with_reducible refine gdf_pos (by first | assumption | omega) ?_) | (with_reducible refine gdf_neg (by first | assumption | omega) ?_) | (with_reducible refine gdf_split (fun hg => ?_) (fun hg => ?_))
  | (with_reducible refine gdtn_pos (by first | assumption | omega) ?_) | (with_reducible refine gdtn_neg (by first | assumption | omega) ?_) | (with_reducible refine gdtn_split (fun hg => ?_) (fun hg => ?_))
  | (with_reducible refine gdfn_pos (by first | assumption | omega) ?_) | (with_reducible refine gdfn_neg (by first | assumption | omega) ?_) | (with_reducible refine gdfn_split (fun hg => ?_) (fun hg => ?_))
  | (with_reducible refine gdtbn_pos (by assumption) ?_) | (with_reducible refine gdtbn_neg (by assumption) ?_) | (with_reducible refine gdfbn_pos (by assumption) ?_) | (with_reducible refine gdfbn_neg (by assumption) ?_)
  | (with_reducible refine gdtb_pos (by assumption) ?_) | (with_reducible refine gdtb_neg (by assumption) ?_) | (with_reducible refine gdtb_split (fun hg => ?_) (fun hg => ?_))
  | (with_reducible refine gdfb_pos (by assumption) ?_) | (with_reducible refine gdfb_neg (by assumption) ?_) | (with_reducible refine gdfb_split (fun hg => ?_) (fun hg => ?_))
  | (with_reducible refine pickT ?_) | (with_reducible refine pickF ?_)
  | (with_reducible refine pick_pos (by first | assumption | omega) ?_) | (with_reducible refine pick_neg (by first | assumption | omega) ?_)
  | (with_reducible refine pickn_pos (by first | assumption | omega) ?_) | (with_reducible refine pickn_neg (by first | assumption | omega) ?_)
  | (with_reducible refine pickbn_pos (by assumption) ?_) | (with_reducible refine pickbn_neg (by assumption) ?_)
  | (with_reducible refine pickb_pos (by assumption) ?_) | (with_reducible refine pickb_neg (by assumption) ?_)
  | (with_reducible refine condT ?_) | (with_reducible refine condF ?_)
  | (with_reducible refine cond_pos (by first | assumption | omega) ?_) | (with_reducible refine cond_neg (by first | assumption | omega) ?_) | (with_reducible refine condM_dec (fun hg => ?_) (fun hg => ?_))
  | (with_reducible refine condn_pos (by first | assumption | omega) ?_) | (with_reducible refine condn_neg (by first | assumption | omega) ?_) | (with_reducible refine condM_ndec (fun hg => ?_) (fun hg => ?_))
  | (with_reducible refine condbn_pos (by assumption) ?_) | (with_reducible refine condbn_neg (by assumption) ?_) | (with_reducible refine condbn_split (fun hg => ?_) (fun hg => ?_))
  | (with_reducible refine condb_pos (by assumption) ?_) | (with_reducible refine condb_neg (by assumption) ?_) | (with_reducible refine condM_b (fun hg => ?_) (fun hg => ?_))
  | ((with_reducible refine oM_gen (fun Kv hK => ?_)); simp [go_sem]; (try simp (disch := omega) only [wrapI64, wrapU8, wrapU32, wrapU64]); (first | refine hK _ _ ?_ | refine And.intro (by omega) (hK _ _ ?_)); clear hK; clear Kv)))
  refine ⟨fun x w' => ∃ (u : Value) (i : Nat), x = [u, .int .i64 i] ∧ i ≤ l.length ∧ Below w.heap.size w w' ∧ w'.ownsRow w.heap.size 9 1 u i ((l.take i).map (fun x => strV (encV x))), fun x _ => l.length - (match x with | [_, .int _ n] => n.toNat | _ => 0), ⟨_, 0, rfl, by omega, hb2, World.ownsRow_nil _ _ _ _⟩, ?_⟩
  rintro _ _ w3 ⟨u, i, rfl, hi, hb3, hown⟩
  simp only [List.getD_cons_zero, List.getD_cons_succ]
  have hz3 := hb3.size
  by_cases hlt : i < l.length
  · rcases hrow with rfl | ⟨b, o, rfl, hbw, hcells⟩
    · simp at hlt
    obtain ⟨cs, hvc, hcl, hcell⟩ := hcells i hlt
    have hix := idx28 (b := b) (o := o) (c := c) hlt w3
    have hld := load25 (w := w3) (b := b) (o := o + 5 * i) hcl (fun j hj => by rw [hb3.cell hbw]; exact hcell j hj)
    have hff := few_fit _ (F2 _ (List.getElem_mem hlt)) hvc.nin hvc.lin
    have hts : (l.take (i + 1)).map (fun x => strV (encV x)) = (l.take i).map (fun x => strV (encV x)) ++ [strV (encV l[i])] := by
      rw [List.take_add_one, List.getElem?_eq_getElem hlt, List.map_append]; rfl
    repeat (any_goals (first
    | (with_reducible refine pureM_in ?_)
    | (with_reducible refine pureQ_in ?_) | (with_reducible refine gdQ_conv (fun _ => ?_)) | (with_reducible refine pickQT ?_) | (with_reducible refine pickQF ?_) | (with_reducible refine pickQ_pos (by first | assumption | omega) ?_) | (with_reducible refine pickQ_neg (by first | assumption | omega) ?_) | (with_reducible refine pickQn_pos (by first | assumption | omega) ?_) | (with_reducible refine pickQn_neg (by first | assumption | omega) ?_) | ((with_reducible refine oQ_one ?_ ?_); exact ⟨_, rfl⟩) | (with_reducible refine And.intro (Eq.refl (α := World) _) ?_) | (with_reducible refine forall_one ?_) | (with_reducible refine oQ_nil ?_) | (with_reducible refine oQ_of ⟨_, rfl⟩ (fun W0 hW0 => by (refine oM_gen (fun Kv hK => ?_)); simp [go_sem]; (first | exact hK _ _ ⟨rfl, rfl⟩ | exact ⟨by omega, hK _ _ ⟨rfl, rfl⟩⟩)) ?_)
    | (rw [oM_indexAddr, hix, rM_ok]) | (rw [oM_load, hld, rM_ok])
    | (with_reducible refine gdtT ?_) | (with_reducible refine gdtF ?_) | (with_reducible refine gdfF ?_) | (with_reducible refine gdfT ?_) | (with_reducible refine gdu ?_ _)
    | (with_reducible refine gdt_pos (by first | assumption | omega) ?_) | (with_reducible refine gdt_neg (by first | assumption | omega) ?_) | (with_reducible refine gdt_split (fun hg => ?_) (fun hg => ?_))
    | (with_reducible refine gdf_pos (by first | assumption | omega) ?_) | (with_reducible refine gdf_neg (by first | assumption | omega) ?_) | (with_reducible refine gdf_split (fun hg => ?_) (fun hg => ?_))
    | (with_reducible refine gdtn_pos (by first | assumption | omega) ?_) | (with_reducible refine gdtn_neg (by first | assumption | omega) ?_) | (with_reducible refine gdtn_split (fun hg => ?_) (fun hg => ?_))
    | (with_reducible refine gdfn_pos (by first | assumption | omega) ?_) | (with_reducible refine gdfn_neg (by first | assumption | omega) ?_) | (with_reducible refine gdfn_split (fun hg => ?_) (fun hg => ?_))
    | (with_reducible refine gdtbn_pos (by assumption) ?_) | (with_reducible refine gdtbn_neg (by assumption) ?_) | (with_reducible refine gdfbn_pos (by assumption) ?_) | (with_reducible refine gdfbn_neg (by assumption) ?_)
    | (with_reducible refine gdtb_pos (by assumption) ?_) | (with_reducible refine gdtb_neg (by assumption) ?_) | (with_reducible refine gdtb_split (fun hg => ?_) (fun hg => ?_))
    | (with_reducible refine gdfb_pos (by assumption) ?_) | (with_reducible refine gdfb_neg (by assumption) ?_) | (with_reducible refine gdfb_split (fun hg => ?_) (fun hg => ?_))
    | (with_reducible refine pickT ?_) | (with_reducible refine pickF ?_)
    | (with_reducible refine pick_pos (by first | assumption | omega) ?_) | (with_reducible refine pick_neg (by first | assumption | omega) ?_)
    | (with_reducible refine pickn_pos (by first | assumption | omega) ?_) | (with_reducible refine pickn_neg (by first | assumption | omega) ?_)
    | (with_reducible refine pickbn_pos (by assumption) ?_) | (with_reducible refine pickbn_neg (by assumption) ?_)
    | (with_reducible refine pickb_pos (by assumption) ?_) | (with_reducible refine pickb_neg (by assumption) ?_)
    | (with_reducible refine condT ?_) | (with_reducible refine condF ?_)
    | (with_reducible refine cond_pos (by first | assumption | omega) ?_) | (with_reducible refine cond_neg (by first | assumption | omega) ?_) | (with_reducible refine condM_dec (fun hg => ?_) (fun hg => ?_))
    | (with_reducible refine condn_pos (by first | assumption | omega) ?_) | (with_reducible refine condn_neg (by first | assumption | omega) ?_) | (with_reducible refine condM_ndec (fun hg => ?_) (fun hg => ?_))
    | (with_reducible refine condbn_pos (by assumption) ?_) | (with_reducible refine condbn_neg (by assumption) ?_) | (with_reducible refine condbn_split (fun hg => ?_) (fun hg => ?_))
    | (with_reducible refine condb_pos (by assumption) ?_) | (with_reducible refine condb_neg (by assumption) ?_) | (with_reducible refine condM_b (fun hg => ?_) (fun hg => ?_))
    | ((with_reducible refine oM_gen (fun Kv hK => ?_)); simp [go_sem]; (try simp (disch := omega) only [wrapI64, wrapU8, wrapU32, wrapU64]); (first | refine hK _ _ ?_ | refine And.intro (by omega) (hK _ _ ?_)); clear hK; clear Kv)))
    refine write_ok l[i] cs (hl.below hb3 hl.size) (hvc.below hb3) hff.1 (fun w4 hb4 => ?_)
    have hown4 : w4.ownsRow w.heap.size 9 1 u i ((l.take i).map (fun x => strV (encV x))) := hown.kept (grown_of_below hb4 none) (by
      rcases hown.2 with ⟨rfl, _⟩ | ⟨g, cap, cur, rfl, _⟩
      · left; rfl
      · right; simp [Value.ownBlock])
    have hb4' := hb3.trans (hb4.mono hz3)
    have hby : (i + 1) * Tryd.t9.bytes ≤ 140737488355328 := by
      have : Tryd.t9.bytes = 16 := by kernel_rfl
      rw [this]
      omega
    repeat (any_goals (first
    | (with_reducible refine pureM_in ?_)
    | (with_reducible refine pureQ_in ?_) | (with_reducible refine gdQ_conv (fun _ => ?_)) | (with_reducible refine pickQT ?_) | (with_reducible refine pickQF ?_) | (with_reducible refine pickQ_pos (by first | assumption | omega) ?_) | (with_reducible refine pickQ_neg (by first | assumption | omega) ?_) | (with_reducible refine pickQn_pos (by first | assumption | omega) ?_) | (with_reducible refine pickQn_neg (by first | assumption | omega) ?_) | ((with_reducible refine oQ_one ?_ ?_); exact ⟨_, rfl⟩) | (with_reducible refine And.intro (Eq.refl (α := World) _) ?_) | (with_reducible refine forall_one ?_) | (with_reducible refine oQ_nil ?_) | (with_reducible refine oQ_of ⟨_, rfl⟩ (fun W0 hW0 => by (refine oM_gen (fun Kv hK => ?_)); simp [go_sem]; (first | exact hK _ _ ⟨rfl, rfl⟩ | exact ⟨by omega, hK _ _ ⟨rfl, rfl⟩⟩)) ?_)
    | (with_reducible refine gdtT ?_) | (with_reducible refine gdtF ?_) | (with_reducible refine gdfF ?_) | (with_reducible refine gdfT ?_) | (with_reducible refine gdu ?_ _)
    | (with_reducible refine gdt_pos (by first | assumption | omega) ?_) | (with_reducible refine gdt_neg (by first | assumption | omega) ?_) | (with_reducible refine gdt_split (fun hg => ?_) (fun hg => ?_))
    | (with_reducible refine gdf_pos (by first | assumption | omega) ?_) | (with_reducible refine gdf_neg (by first | assumption | omega) ?_) | (with_reducible refine gdf_split (fun hg => ?_) (fun hg => ?_))
    | (with_reducible refine gdtn_pos (by first | assumption | omega) ?_) | (with_reducible refine gdtn_neg (by first | assumption | omega) ?_) | (with_reducible refine gdtn_split (fun hg => ?_) (fun hg => ?_))
    | (with_reducible refine gdfn_pos (by first | assumption | omega) ?_) | (with_reducible refine gdfn_neg (by first | assumption | omega) ?_) | (with_reducible refine gdfn_split (fun hg => ?_) (fun hg => ?_))
    | (with_reducible refine gdtbn_pos (by assumption) ?_) | (with_reducible refine gdtbn_neg (by assumption) ?_) | (with_reducible refine gdfbn_pos (by assumption) ?_) | (with_reducible refine gdfbn_neg (by assumption) ?_)
    | (with_reducible refine gdtb_pos (by assumption) ?_) | (with_reducible refine gdtb_neg (by assumption) ?_) | (with_reducible refine gdtb_split (fun hg => ?_) (fun hg => ?_))
    | (with_reducible refine gdfb_pos (by assumption) ?_) | (with_reducible refine gdfb_neg (by assumption) ?_) | (with_reducible refine gdfb_split (fun hg => ?_) (fun hg => ?_))
    | (with_reducible refine pickT ?_) | (with_reducible refine pickF ?_)
    | (with_reducible refine pick_pos (by first | assumption | omega) ?_) | (with_reducible refine pick_neg (by first | assumption | omega) ?_)
    | (with_reducible refine pickn_pos (by first | assumption | omega) ?_) | (with_reducible refine pickn_neg (by first | assumption | omega) ?_)
    | (with_reducible refine pickbn_pos (by assumption) ?_) | (with_reducible refine pickbn_neg (by assumption) ?_)
    | (with_reducible refine pickb_pos (by assumption) ?_) | (with_reducible refine pickb_neg (by assumption) ?_)
    | (with_reducible refine condT ?_) | (with_reducible refine condF ?_)
    | (with_reducible refine cond_pos (by first | assumption | omega) ?_) | (with_reducible refine cond_neg (by first | assumption | omega) ?_) | (with_reducible refine condM_dec (fun hg => ?_) (fun hg => ?_))
    | (with_reducible refine condn_pos (by first | assumption | omega) ?_) | (with_reducible refine condn_neg (by first | assumption | omega) ?_) | (with_reducible refine condM_ndec (fun hg => ?_) (fun hg => ?_))
    | (with_reducible refine condbn_pos (by assumption) ?_) | (with_reducible refine condbn_neg (by assumption) ?_) | (with_reducible refine condbn_split (fun hg => ?_) (fun hg => ?_))
    | (with_reducible refine condb_pos (by assumption) ?_) | (with_reducible refine condb_neg (by assumption) ?_) | (with_reducible refine condM_b (fun hg => ?_) (fun hg => ?_))
    | ((with_reducible refine oM_gen (fun Kv hK => ?_)); simp [go_sem]; (try simp (disch := omega) only [wrapI64, wrapU8, wrapU32, wrapU64]); (first | refine hK _ _ ?_ | refine And.intro (by omega) (hK _ _ ?_)); clear hK; clear Kv)))
    refine oM_append_new (base := w.heap.size) (n := i) (xs := (l.take i).map (fun x => strV (encV x))) (i := Tryd.t9) (z := .string ⟨#[]⟩) (cs := #[strV (encV l[i])]) Tryd.underlying23 (by kernel_rfl) (by kernel_rfl) rfl rfl (by simp) (by simp [Value.oneCell', strV]) hown4 hb4'.size (by unfold maxLen; omega) hby ?_
    intro v' w5 ho5 hg5
    have hb5 : Below w.heap.size w w5 := hb4'.trans (below_of_grown hg5 hb4'.size (fun k hk => (hown4.lt k hk).1))
    repeat (any_goals (first
    | (with_reducible refine pureM_in ?_)
    | (with_reducible refine pureQ_in ?_) | (with_reducible refine gdQ_conv (fun _ => ?_)) | (with_reducible refine pickQT ?_) | (with_reducible refine pickQF ?_) | (with_reducible refine pickQ_pos (by first | assumption | omega) ?_) | (with_reducible refine pickQ_neg (by first | assumption | omega) ?_) | (with_reducible refine pickQn_pos (by first | assumption | omega) ?_) | (with_reducible refine pickQn_neg (by first | assumption | omega) ?_) | ((with_reducible refine oQ_one ?_ ?_); exact ⟨_, rfl⟩) | (with_reducible refine And.intro (Eq.refl (α := World) _) ?_) | (with_reducible refine forall_one ?_) | (with_reducible refine oQ_nil ?_) | (with_reducible refine oQ_of ⟨_, rfl⟩ (fun W0 hW0 => by (refine oM_gen (fun Kv hK => ?_)); simp [go_sem]; (first | exact hK _ _ ⟨rfl, rfl⟩ | exact ⟨by omega, hK _ _ ⟨rfl, rfl⟩⟩)) ?_)
    | (with_reducible refine gdtT ?_) | (with_reducible refine gdtF ?_) | (with_reducible refine gdfF ?_) | (with_reducible refine gdfT ?_) | (with_reducible refine gdu ?_ _)
    | (with_reducible refine gdt_pos (by first | assumption | omega) ?_) | (with_reducible refine gdt_neg (by first | assumption | omega) ?_) | (with_reducible refine gdt_split (fun hg => ?_) (fun hg => ?_))
    | (with_reducible refine gdf_pos (by first | assumption | omega) ?_) | (with_reducible refine gdf_neg (by first | assumption | omega) ?_) | (with_reducible refine gdf_split (fun hg => ?_) (fun hg => ?_))
    | (with_reducible refine gdtn_pos (by first | assumption | omega) ?_) | (with_reducible refine gdtn_neg (by first | assumption | omega) ?_) | (with_reducible refine gdtn_split (fun hg => ?_) (fun hg => ?_))
    | (with_reducible refine gdfn_pos (by first | assumption | omega) ?_) | (with_reducible refine gdfn_neg (by first | assumption | omega) ?_) | (with_reducible refine gdfn_split (fun hg => ?_) (fun hg => ?_))
    | (with_reducible refine gdtbn_pos (by assumption) ?_) | (with_reducible refine gdtbn_neg (by assumption) ?_) | (with_reducible refine gdfbn_pos (by assumption) ?_) | (with_reducible refine gdfbn_neg (by assumption) ?_)
    | (with_reducible refine gdtb_pos (by assumption) ?_) | (with_reducible refine gdtb_neg (by assumption) ?_) | (with_reducible refine gdtb_split (fun hg => ?_) (fun hg => ?_))
    | (with_reducible refine gdfb_pos (by assumption) ?_) | (with_reducible refine gdfb_neg (by assumption) ?_) | (with_reducible refine gdfb_split (fun hg => ?_) (fun hg => ?_))
    | (with_reducible refine pickT ?_) | (with_reducible refine pickF ?_)
    | (with_reducible refine pick_pos (by first | assumption | omega) ?_) | (with_reducible refine pick_neg (by first | assumption | omega) ?_)
    | (with_reducible refine pickn_pos (by first | assumption | omega) ?_) | (with_reducible refine pickn_neg (by first | assumption | omega) ?_)
    | (with_reducible refine pickbn_pos (by assumption) ?_) | (with_reducible refine pickbn_neg (by assumption) ?_)
    | (with_reducible refine pickb_pos (by assumption) ?_) | (with_reducible refine pickb_neg (by assumption) ?_)
    | (with_reducible refine condT ?_) | (with_reducible refine condF ?_)
    | (with_reducible refine cond_pos (by first | assumption | omega) ?_) | (with_reducible refine cond_neg (by first | assumption | omega) ?_) | (with_reducible refine condM_dec (fun hg => ?_) (fun hg => ?_))
    | (with_reducible refine condn_pos (by first | assumption | omega) ?_) | (with_reducible refine condn_neg (by first | assumption | omega) ?_) | (with_reducible refine condM_ndec (fun hg => ?_) (fun hg => ?_))
    | (with_reducible refine condbn_pos (by assumption) ?_) | (with_reducible refine condbn_neg (by assumption) ?_) | (with_reducible refine condbn_split (fun hg => ?_) (fun hg => ?_))
    | (with_reducible refine condb_pos (by assumption) ?_) | (with_reducible refine condb_neg (by assumption) ?_) | (with_reducible refine condM_b (fun hg => ?_) (fun hg => ?_))
    | ((with_reducible refine oM_gen (fun Kv hK => ?_)); simp [go_sem]; (try simp (disch := omega) only [wrapI64, wrapU8, wrapU32, wrapU64]); (first | refine hK _ _ ?_ | refine And.intro (by omega) (hK _ _ ?_)); clear hK; clear Kv)))
    exact ⟨⟨v', i + 1, rfl, hlt, hb5, by rw [hts]; exact ho5⟩, by simp; omega⟩
  · obtain rfl : i = l.length := by omega
    rw [List.take_length] at hown
    obtain ⟨ps, hps⟩ : ∃ ps, ps = l.map encV := ⟨_, rfl⟩
    have hpl : ps.length = l.length := by rw [hps, List.length_map]
    have hpm : l.map (fun x => strV (encV x)) = ps.map strV := by rw [hps, List.map_map]; rfl
    rw [hpm, ← hpl] at hown
    have hpx : ∀ p ∈ ps, p.length ≤ 200000 := by
      intro p hp
      rw [hps, List.mem_map] at hp
      obtain ⟨x, hx, rfl⟩ := hp
      exact hev x hx
    have hpg : ∀ i (h : i < l.length), ps[i]'(by omega) = encV l[i] := by
      intro i h
      simp [hps]
    have hfl := flat_bound encText ps 200022 (fun p hp => by have := hpx p hp; have := encText_len p (by omega); omega)
    have hel := encList_len (ps.map encText) (by rw [List.length_map]; omega)
    have hl1 : (encTexts ps).length ≤ 5000000 := by unfold encTexts; omega
    have hl2 := encText_len (encTexts ps) (by omega)
    repeat (any_goals (first
    | (with_reducible refine pureM_in ?_)
    | (with_reducible refine pureQ_in ?_) | (with_reducible refine gdQ_conv (fun _ => ?_)) | (with_reducible refine pickQT ?_) | (with_reducible refine pickQF ?_) | (with_reducible refine pickQ_pos (by first | assumption | omega) ?_) | (with_reducible refine pickQ_neg (by first | assumption | omega) ?_) | (with_reducible refine pickQn_pos (by first | assumption | omega) ?_) | (with_reducible refine pickQn_neg (by first | assumption | omega) ?_) | ((with_reducible refine oQ_one ?_ ?_); exact ⟨_, rfl⟩) | (with_reducible refine And.intro (Eq.refl (α := World) _) ?_) | (with_reducible refine forall_one ?_) | (with_reducible refine oQ_nil ?_) | (with_reducible refine oQ_of ⟨_, rfl⟩ (fun W0 hW0 => by (refine oM_gen (fun Kv hK => ?_)); simp [go_sem]; (first | exact hK _ _ ⟨rfl, rfl⟩ | exact ⟨by omega, hK _ _ ⟨rfl, rfl⟩⟩)) ?_)
    | (with_reducible refine gdtT ?_) | (with_reducible refine gdtF ?_) | (with_reducible refine gdfF ?_) | (with_reducible refine gdfT ?_) | (with_reducible refine gdu ?_ _)
    | (with_reducible refine gdt_pos (by first | assumption | omega) ?_) | (with_reducible refine gdt_neg (by first | assumption | omega) ?_) | (with_reducible refine gdt_split (fun hg => ?_) (fun hg => ?_))
    | (with_reducible refine gdf_pos (by first | assumption | omega) ?_) | (with_reducible refine gdf_neg (by first | assumption | omega) ?_) | (with_reducible refine gdf_split (fun hg => ?_) (fun hg => ?_))
    | (with_reducible refine gdtn_pos (by first | assumption | omega) ?_) | (with_reducible refine gdtn_neg (by first | assumption | omega) ?_) | (with_reducible refine gdtn_split (fun hg => ?_) (fun hg => ?_))
    | (with_reducible refine gdfn_pos (by first | assumption | omega) ?_) | (with_reducible refine gdfn_neg (by first | assumption | omega) ?_) | (with_reducible refine gdfn_split (fun hg => ?_) (fun hg => ?_))
    | (with_reducible refine gdtbn_pos (by assumption) ?_) | (with_reducible refine gdtbn_neg (by assumption) ?_) | (with_reducible refine gdfbn_pos (by assumption) ?_) | (with_reducible refine gdfbn_neg (by assumption) ?_)
    | (with_reducible refine gdtb_pos (by assumption) ?_) | (with_reducible refine gdtb_neg (by assumption) ?_) | (with_reducible refine gdtb_split (fun hg => ?_) (fun hg => ?_))
    | (with_reducible refine gdfb_pos (by assumption) ?_) | (with_reducible refine gdfb_neg (by assumption) ?_) | (with_reducible refine gdfb_split (fun hg => ?_) (fun hg => ?_))
    | (with_reducible refine pickT ?_) | (with_reducible refine pickF ?_)
    | (with_reducible refine pick_pos (by first | assumption | omega) ?_) | (with_reducible refine pick_neg (by first | assumption | omega) ?_)
    | (with_reducible refine pickn_pos (by first | assumption | omega) ?_) | (with_reducible refine pickn_neg (by first | assumption | omega) ?_)
    | (with_reducible refine pickbn_pos (by assumption) ?_) | (with_reducible refine pickbn_neg (by assumption) ?_)
    | (with_reducible refine pickb_pos (by assumption) ?_) | (with_reducible refine pickb_neg (by assumption) ?_)
    | (with_reducible refine condT ?_) | (with_reducible refine condF ?_)
    | (with_reducible refine cond_pos (by first | assumption | omega) ?_) | (with_reducible refine cond_neg (by first | assumption | omega) ?_) | (with_reducible refine condM_dec (fun hg => ?_) (fun hg => ?_))
    | (with_reducible refine condn_pos (by first | assumption | omega) ?_) | (with_reducible refine condn_neg (by first | assumption | omega) ?_) | (with_reducible refine condM_ndec (fun hg => ?_) (fun hg => ?_))
    | (with_reducible refine condbn_pos (by assumption) ?_) | (with_reducible refine condbn_neg (by assumption) ?_) | (with_reducible refine condbn_split (fun hg => ?_) (fun hg => ?_))
    | (with_reducible refine condb_pos (by assumption) ?_) | (with_reducible refine condb_neg (by assumption) ?_) | (with_reducible refine condM_b (fun hg => ?_) (fun hg => ?_))
    | ((with_reducible refine oM_gen (fun Kv hK => ?_)); simp [go_sem]; (try simp (disch := omega) only [wrapI64, wrapU8, wrapU32, wrapU64]); (first | refine hK _ _ ?_ | refine And.intro (by omega) (hK _ _ ?_)); clear hK; clear Kv)))
    refine pTexts_ok ps _ (hl.below hb3 hl.size) (RowOf.of_owns hown) (fun p hp => by have := hpx p hp; omega) (by have := hl1; unfold encTexts at this; omega) (fun w4 hb4 => ?_)
    replace hb4 := hb3.trans (hb4.mono hz3)
    repeat (any_goals (first
    | (with_reducible refine pureM_in ?_)
    | (with_reducible refine pureQ_in ?_) | (with_reducible refine gdQ_conv (fun _ => ?_)) | (with_reducible refine pickQT ?_) | (with_reducible refine pickQF ?_) | (with_reducible refine pickQ_pos (by first | assumption | omega) ?_) | (with_reducible refine pickQ_neg (by first | assumption | omega) ?_) | (with_reducible refine pickQn_pos (by first | assumption | omega) ?_) | (with_reducible refine pickQn_neg (by first | assumption | omega) ?_) | ((with_reducible refine oQ_one ?_ ?_); exact ⟨_, rfl⟩) | (with_reducible refine And.intro (Eq.refl (α := World) _) ?_) | (with_reducible refine forall_one ?_) | (with_reducible refine oQ_nil ?_) | (with_reducible refine oQ_of ⟨_, rfl⟩ (fun W0 hW0 => by (refine oM_gen (fun Kv hK => ?_)); simp [go_sem]; (first | exact hK _ _ ⟨rfl, rfl⟩ | exact ⟨by omega, hK _ _ ⟨rfl, rfl⟩⟩)) ?_)
    | (with_reducible refine gdtT ?_) | (with_reducible refine gdtF ?_) | (with_reducible refine gdfF ?_) | (with_reducible refine gdfT ?_) | (with_reducible refine gdu ?_ _)
    | (with_reducible refine gdt_pos (by first | assumption | omega) ?_) | (with_reducible refine gdt_neg (by first | assumption | omega) ?_) | (with_reducible refine gdt_split (fun hg => ?_) (fun hg => ?_))
    | (with_reducible refine gdf_pos (by first | assumption | omega) ?_) | (with_reducible refine gdf_neg (by first | assumption | omega) ?_) | (with_reducible refine gdf_split (fun hg => ?_) (fun hg => ?_))
    | (with_reducible refine gdtn_pos (by first | assumption | omega) ?_) | (with_reducible refine gdtn_neg (by first | assumption | omega) ?_) | (with_reducible refine gdtn_split (fun hg => ?_) (fun hg => ?_))
    | (with_reducible refine gdfn_pos (by first | assumption | omega) ?_) | (with_reducible refine gdfn_neg (by first | assumption | omega) ?_) | (with_reducible refine gdfn_split (fun hg => ?_) (fun hg => ?_))
    | (with_reducible refine gdtbn_pos (by assumption) ?_) | (with_reducible refine gdtbn_neg (by assumption) ?_) | (with_reducible refine gdfbn_pos (by assumption) ?_) | (with_reducible refine gdfbn_neg (by assumption) ?_)
    | (with_reducible refine gdtb_pos (by assumption) ?_) | (with_reducible refine gdtb_neg (by assumption) ?_) | (with_reducible refine gdtb_split (fun hg => ?_) (fun hg => ?_))
    | (with_reducible refine gdfb_pos (by assumption) ?_) | (with_reducible refine gdfb_neg (by assumption) ?_) | (with_reducible refine gdfb_split (fun hg => ?_) (fun hg => ?_))
    | (with_reducible refine pickT ?_) | (with_reducible refine pickF ?_)
    | (with_reducible refine pick_pos (by first | assumption | omega) ?_) | (with_reducible refine pick_neg (by first | assumption | omega) ?_)
    | (with_reducible refine pickn_pos (by first | assumption | omega) ?_) | (with_reducible refine pickn_neg (by first | assumption | omega) ?_)
    | (with_reducible refine pickbn_pos (by assumption) ?_) | (with_reducible refine pickbn_neg (by assumption) ?_)
    | (with_reducible refine pickb_pos (by assumption) ?_) | (with_reducible refine pickb_neg (by assumption) ?_)
    | (with_reducible refine condT ?_) | (with_reducible refine condF ?_)
    | (with_reducible refine cond_pos (by first | assumption | omega) ?_) | (with_reducible refine cond_neg (by first | assumption | omega) ?_) | (with_reducible refine condM_dec (fun hg => ?_) (fun hg => ?_))
    | (with_reducible refine condn_pos (by first | assumption | omega) ?_) | (with_reducible refine condn_neg (by first | assumption | omega) ?_) | (with_reducible refine condM_ndec (fun hg => ?_) (fun hg => ?_))
    | (with_reducible refine condbn_pos (by assumption) ?_) | (with_reducible refine condbn_neg (by assumption) ?_) | (with_reducible refine condbn_split (fun hg => ?_) (fun hg => ?_))
    | (with_reducible refine condb_pos (by assumption) ?_) | (with_reducible refine condb_neg (by assumption) ?_) | (with_reducible refine condM_b (fun hg => ?_) (fun hg => ?_))
    | ((with_reducible refine oM_gen (fun Kv hK => ?_)); simp [go_sem]; (try simp (disch := omega) only [wrapI64, wrapU8, wrapU32, wrapU64]); (first | refine hK _ _ ?_ | refine And.intro (by omega) (hK _ _ ?_)); clear hK; clear Kv)))
    refine pText_ok (encTexts ps) (by omega) (hl.below hb4 hl.size) (fun w5 hb5 => ?_)
    replace hb5 := hb4.trans (hb5.mono hb4.size)
    repeat (any_goals (first
    | (with_reducible refine pureM_in ?_)
    | (with_reducible refine pureQ_in ?_) | (with_reducible refine gdQ_conv (fun _ => ?_)) | (with_reducible refine pickQT ?_) | (with_reducible refine pickQF ?_) | (with_reducible refine pickQ_pos (by first | assumption | omega) ?_) | (with_reducible refine pickQ_neg (by first | assumption | omega) ?_) | (with_reducible refine pickQn_pos (by first | assumption | omega) ?_) | (with_reducible refine pickQn_neg (by first | assumption | omega) ?_) | ((with_reducible refine oQ_one ?_ ?_); exact ⟨_, rfl⟩) | (with_reducible refine And.intro (Eq.refl (α := World) _) ?_) | (with_reducible refine forall_one ?_) | (with_reducible refine oQ_nil ?_) | (with_reducible refine oQ_of ⟨_, rfl⟩ (fun W0 hW0 => by (refine oM_gen (fun Kv hK => ?_)); simp [go_sem]; (first | exact hK _ _ ⟨rfl, rfl⟩ | exact ⟨by omega, hK _ _ ⟨rfl, rfl⟩⟩)) ?_)
    | (with_reducible refine gdtT ?_) | (with_reducible refine gdtF ?_) | (with_reducible refine gdfF ?_) | (with_reducible refine gdfT ?_) | (with_reducible refine gdu ?_ _)
    | (with_reducible refine gdt_pos (by first | assumption | omega) ?_) | (with_reducible refine gdt_neg (by first | assumption | omega) ?_) | (with_reducible refine gdt_split (fun hg => ?_) (fun hg => ?_))
    | (with_reducible refine gdf_pos (by first | assumption | omega) ?_) | (with_reducible refine gdf_neg (by first | assumption | omega) ?_) | (with_reducible refine gdf_split (fun hg => ?_) (fun hg => ?_))
    | (with_reducible refine gdtn_pos (by first | assumption | omega) ?_) | (with_reducible refine gdtn_neg (by first | assumption | omega) ?_) | (with_reducible refine gdtn_split (fun hg => ?_) (fun hg => ?_))
    | (with_reducible refine gdfn_pos (by first | assumption | omega) ?_) | (with_reducible refine gdfn_neg (by first | assumption | omega) ?_) | (with_reducible refine gdfn_split (fun hg => ?_) (fun hg => ?_))
    | (with_reducible refine gdtbn_pos (by assumption) ?_) | (with_reducible refine gdtbn_neg (by assumption) ?_) | (with_reducible refine gdfbn_pos (by assumption) ?_) | (with_reducible refine gdfbn_neg (by assumption) ?_)
    | (with_reducible refine gdtb_pos (by assumption) ?_) | (with_reducible refine gdtb_neg (by assumption) ?_) | (with_reducible refine gdtb_split (fun hg => ?_) (fun hg => ?_))
    | (with_reducible refine gdfb_pos (by assumption) ?_) | (with_reducible refine gdfb_neg (by assumption) ?_) | (with_reducible refine gdfb_split (fun hg => ?_) (fun hg => ?_))
    | (with_reducible refine pickT ?_) | (with_reducible refine pickF ?_)
    | (with_reducible refine pick_pos (by first | assumption | omega) ?_) | (with_reducible refine pick_neg (by first | assumption | omega) ?_)
    | (with_reducible refine pickn_pos (by first | assumption | omega) ?_) | (with_reducible refine pickn_neg (by first | assumption | omega) ?_)
    | (with_reducible refine pickbn_pos (by assumption) ?_) | (with_reducible refine pickbn_neg (by assumption) ?_)
    | (with_reducible refine pickb_pos (by assumption) ?_) | (with_reducible refine pickb_neg (by assumption) ?_)
    | (with_reducible refine condT ?_) | (with_reducible refine condF ?_)
    | (with_reducible refine cond_pos (by first | assumption | omega) ?_) | (with_reducible refine cond_neg (by first | assumption | omega) ?_) | (with_reducible refine condM_dec (fun hg => ?_) (fun hg => ?_))
    | (with_reducible refine condn_pos (by first | assumption | omega) ?_) | (with_reducible refine condn_neg (by first | assumption | omega) ?_) | (with_reducible refine condM_ndec (fun hg => ?_) (fun hg => ?_))
    | (with_reducible refine condbn_pos (by assumption) ?_) | (with_reducible refine condbn_neg (by assumption) ?_) | (with_reducible refine condbn_split (fun hg => ?_) (fun hg => ?_))
    | (with_reducible refine condb_pos (by assumption) ?_) | (with_reducible refine condb_neg (by assumption) ?_) | (with_reducible refine condM_b (fun hg => ?_) (fun hg => ?_))
    | ((with_reducible refine oM_gen (fun Kv hK => ?_)); simp [go_sem]; (try simp (disch := omega) only [wrapI64, wrapU8, wrapU32, wrapU64]); (first | refine hK _ _ ?_ | refine And.intro (by omega) (hK _ _ ?_)); clear hK; clear Kv)))
    refine open_ok _ (fun w6 hr6 hb6 => ?_)
    have hz5 := hb5.size
    replace hb6 := hb5.trans (hb6.mono hz5)
    repeat (any_goals (first
    | (with_reducible refine pureM_in ?_)
    | (with_reducible refine pureQ_in ?_) | (with_reducible refine gdQ_conv (fun _ => ?_)) | (with_reducible refine pickQT ?_) | (with_reducible refine pickQF ?_) | (with_reducible refine pickQ_pos (by first | assumption | omega) ?_) | (with_reducible refine pickQ_neg (by first | assumption | omega) ?_) | (with_reducible refine pickQn_pos (by first | assumption | omega) ?_) | (with_reducible refine pickQn_neg (by first | assumption | omega) ?_) | ((with_reducible refine oQ_one ?_ ?_); exact ⟨_, rfl⟩) | (with_reducible refine And.intro (Eq.refl (α := World) _) ?_) | (with_reducible refine forall_one ?_) | (with_reducible refine oQ_nil ?_) | (with_reducible refine oQ_of ⟨_, rfl⟩ (fun W0 hW0 => by (refine oM_gen (fun Kv hK => ?_)); simp [go_sem]; (first | exact hK _ _ ⟨rfl, rfl⟩ | exact ⟨by omega, hK _ _ ⟨rfl, rfl⟩⟩)) ?_)
    | (with_reducible refine gdtT ?_) | (with_reducible refine gdtF ?_) | (with_reducible refine gdfF ?_) | (with_reducible refine gdfT ?_) | (with_reducible refine gdu ?_ _)
    | (with_reducible refine gdt_pos (by first | assumption | omega) ?_) | (with_reducible refine gdt_neg (by first | assumption | omega) ?_) | (with_reducible refine gdt_split (fun hg => ?_) (fun hg => ?_))
    | (with_reducible refine gdf_pos (by first | assumption | omega) ?_) | (with_reducible refine gdf_neg (by first | assumption | omega) ?_) | (with_reducible refine gdf_split (fun hg => ?_) (fun hg => ?_))
    | (with_reducible refine gdtn_pos (by first | assumption | omega) ?_) | (with_reducible refine gdtn_neg (by first | assumption | omega) ?_) | (with_reducible refine gdtn_split (fun hg => ?_) (fun hg => ?_))
    | (with_reducible refine gdfn_pos (by first | assumption | omega) ?_) | (with_reducible refine gdfn_neg (by first | assumption | omega) ?_) | (with_reducible refine gdfn_split (fun hg => ?_) (fun hg => ?_))
    | (with_reducible refine gdtbn_pos (by assumption) ?_) | (with_reducible refine gdtbn_neg (by assumption) ?_) | (with_reducible refine gdfbn_pos (by assumption) ?_) | (with_reducible refine gdfbn_neg (by assumption) ?_)
    | (with_reducible refine gdtb_pos (by assumption) ?_) | (with_reducible refine gdtb_neg (by assumption) ?_) | (with_reducible refine gdtb_split (fun hg => ?_) (fun hg => ?_))
    | (with_reducible refine gdfb_pos (by assumption) ?_) | (with_reducible refine gdfb_neg (by assumption) ?_) | (with_reducible refine gdfb_split (fun hg => ?_) (fun hg => ?_))
    | (with_reducible refine pickT ?_) | (with_reducible refine pickF ?_)
    | (with_reducible refine pick_pos (by first | assumption | omega) ?_) | (with_reducible refine pick_neg (by first | assumption | omega) ?_)
    | (with_reducible refine pickn_pos (by first | assumption | omega) ?_) | (with_reducible refine pickn_neg (by first | assumption | omega) ?_)
    | (with_reducible refine pickbn_pos (by assumption) ?_) | (with_reducible refine pickbn_neg (by assumption) ?_)
    | (with_reducible refine pickb_pos (by assumption) ?_) | (with_reducible refine pickb_neg (by assumption) ?_)
    | (with_reducible refine condT ?_) | (with_reducible refine condF ?_)
    | (with_reducible refine cond_pos (by first | assumption | omega) ?_) | (with_reducible refine cond_neg (by first | assumption | omega) ?_) | (with_reducible refine condM_dec (fun hg => ?_) (fun hg => ?_))
    | (with_reducible refine condn_pos (by first | assumption | omega) ?_) | (with_reducible refine condn_neg (by first | assumption | omega) ?_) | (with_reducible refine condM_ndec (fun hg => ?_) (fun hg => ?_))
    | (with_reducible refine condbn_pos (by assumption) ?_) | (with_reducible refine condbn_neg (by assumption) ?_) | (with_reducible refine condbn_split (fun hg => ?_) (fun hg => ?_))
    | (with_reducible refine condb_pos (by assumption) ?_) | (with_reducible refine condb_neg (by assumption) ?_) | (with_reducible refine condM_b (fun hg => ?_) (fun hg => ?_))
    | ((with_reducible refine oM_gen (fun Kv hK => ?_)); simp [go_sem, oM_eqc, eqGuard]; (try simp (disch := omega) only [wrapI64, wrapU8, wrapU32, wrapU64]); (first | refine hK _ _ ?_ | refine And.intro (by omega) (hK _ _ ?_)); clear hK; clear Kv)))
    have hrt := rdText_enc (encTexts ps) [] (by omega)
    rw [List.append_nil] at hrt
    refine rtext_ok _ _ (hl.below hb6 hl.size) (by simp only; omega) hr6 (fun w7 hr7 hg7 => ?_)
    rw [hrt] at hr7 ⊢
    have hb7 := below_rd hb6 hz5 hg7
    refine open_ok _ (fun w8 hr8 hb8 => ?_)
    have hz7 := hb7.size
    have hr7' := hr7.below hb8 hr7.lt
    replace hb8 := hb7.trans (hb8.mono hz7)
    repeat (any_goals (first
    | (with_reducible refine pureM_in ?_)
    | (with_reducible refine pureQ_in ?_) | (with_reducible refine gdQ_conv (fun _ => ?_)) | (with_reducible refine pickQT ?_) | (with_reducible refine pickQF ?_) | (with_reducible refine pickQ_pos (by first | assumption | omega) ?_) | (with_reducible refine pickQ_neg (by first | assumption | omega) ?_) | (with_reducible refine pickQn_pos (by first | assumption | omega) ?_) | (with_reducible refine pickQn_neg (by first | assumption | omega) ?_) | ((with_reducible refine oQ_one ?_ ?_); exact ⟨_, rfl⟩) | (with_reducible refine And.intro (Eq.refl (α := World) _) ?_) | (with_reducible refine forall_one ?_) | (with_reducible refine oQ_nil ?_) | (with_reducible refine oQ_of ⟨_, rfl⟩ (fun W0 hW0 => by (refine oM_gen (fun Kv hK => ?_)); simp [go_sem]; (first | exact hK _ _ ⟨rfl, rfl⟩ | exact ⟨by omega, hK _ _ ⟨rfl, rfl⟩⟩)) ?_)
    | (with_reducible refine gdtT ?_) | (with_reducible refine gdtF ?_) | (with_reducible refine gdfF ?_) | (with_reducible refine gdfT ?_) | (with_reducible refine gdu ?_ _)
    | (with_reducible refine gdt_pos (by first | assumption | omega) ?_) | (with_reducible refine gdt_neg (by first | assumption | omega) ?_) | (with_reducible refine gdt_split (fun hg => ?_) (fun hg => ?_))
    | (with_reducible refine gdf_pos (by first | assumption | omega) ?_) | (with_reducible refine gdf_neg (by first | assumption | omega) ?_) | (with_reducible refine gdf_split (fun hg => ?_) (fun hg => ?_))
    | (with_reducible refine gdtn_pos (by first | assumption | omega) ?_) | (with_reducible refine gdtn_neg (by first | assumption | omega) ?_) | (with_reducible refine gdtn_split (fun hg => ?_) (fun hg => ?_))
    | (with_reducible refine gdfn_pos (by first | assumption | omega) ?_) | (with_reducible refine gdfn_neg (by first | assumption | omega) ?_) | (with_reducible refine gdfn_split (fun hg => ?_) (fun hg => ?_))
    | (with_reducible refine gdtbn_pos (by assumption) ?_) | (with_reducible refine gdtbn_neg (by assumption) ?_) | (with_reducible refine gdfbn_pos (by assumption) ?_) | (with_reducible refine gdfbn_neg (by assumption) ?_)
    | (with_reducible refine gdtb_pos (by assumption) ?_) | (with_reducible refine gdtb_neg (by assumption) ?_) | (with_reducible refine gdtb_split (fun hg => ?_) (fun hg => ?_))
    | (with_reducible refine gdfb_pos (by assumption) ?_) | (with_reducible refine gdfb_neg (by assumption) ?_) | (with_reducible refine gdfb_split (fun hg => ?_) (fun hg => ?_))
    | (with_reducible refine pickT ?_) | (with_reducible refine pickF ?_)
    | (with_reducible refine pick_pos (by first | assumption | omega) ?_) | (with_reducible refine pick_neg (by first | assumption | omega) ?_)
    | (with_reducible refine pickn_pos (by first | assumption | omega) ?_) | (with_reducible refine pickn_neg (by first | assumption | omega) ?_)
    | (with_reducible refine pickbn_pos (by assumption) ?_) | (with_reducible refine pickbn_neg (by assumption) ?_)
    | (with_reducible refine pickb_pos (by assumption) ?_) | (with_reducible refine pickb_neg (by assumption) ?_)
    | (with_reducible refine condT ?_) | (with_reducible refine condF ?_)
    | (with_reducible refine cond_pos (by first | assumption | omega) ?_) | (with_reducible refine cond_neg (by first | assumption | omega) ?_) | (with_reducible refine condM_dec (fun hg => ?_) (fun hg => ?_))
    | (with_reducible refine condn_pos (by first | assumption | omega) ?_) | (with_reducible refine condn_neg (by first | assumption | omega) ?_) | (with_reducible refine condM_ndec (fun hg => ?_) (fun hg => ?_))
    | (with_reducible refine condbn_pos (by assumption) ?_) | (with_reducible refine condbn_neg (by assumption) ?_) | (with_reducible refine condbn_split (fun hg => ?_) (fun hg => ?_))
    | (with_reducible refine condb_pos (by assumption) ?_) | (with_reducible refine condb_neg (by assumption) ?_) | (with_reducible refine condM_b (fun hg => ?_) (fun hg => ?_))
    | ((with_reducible refine oM_gen (fun Kv hK => ?_)); simp [go_sem, oM_eqc, eqGuard]; (try simp (disch := omega) only [wrapI64, wrapU8, wrapU32, wrapU64]); (first | refine hK _ _ ?_ | refine And.intro (by omega) (hK _ _ ?_)); clear hK; clear Kv)))
    refine done_ok _ _ hr7' ?_
    rw [show rdDone ⟨[], false⟩ = true from rfl]
    repeat (any_goals (first
    | (with_reducible refine pureM_in ?_)
    | (with_reducible refine pureQ_in ?_) | (with_reducible refine gdQ_conv (fun _ => ?_)) | (with_reducible refine pickQT ?_) | (with_reducible refine pickQF ?_) | (with_reducible refine pickQ_pos (by first | assumption | omega) ?_) | (with_reducible refine pickQ_neg (by first | assumption | omega) ?_) | (with_reducible refine pickQn_pos (by first | assumption | omega) ?_) | (with_reducible refine pickQn_neg (by first | assumption | omega) ?_) | ((with_reducible refine oQ_one ?_ ?_); exact ⟨_, rfl⟩) | (with_reducible refine And.intro (Eq.refl (α := World) _) ?_) | (with_reducible refine forall_one ?_) | (with_reducible refine oQ_nil ?_) | (with_reducible refine oQ_of ⟨_, rfl⟩ (fun W0 hW0 => by (refine oM_gen (fun Kv hK => ?_)); simp [go_sem]; (first | exact hK _ _ ⟨rfl, rfl⟩ | exact ⟨by omega, hK _ _ ⟨rfl, rfl⟩⟩)) ?_)
    | (with_reducible refine gdtT ?_) | (with_reducible refine gdtF ?_) | (with_reducible refine gdfF ?_) | (with_reducible refine gdfT ?_) | (with_reducible refine gdu ?_ _)
    | (with_reducible refine gdt_pos (by first | assumption | omega) ?_) | (with_reducible refine gdt_neg (by first | assumption | omega) ?_) | (with_reducible refine gdt_split (fun hg => ?_) (fun hg => ?_))
    | (with_reducible refine gdf_pos (by first | assumption | omega) ?_) | (with_reducible refine gdf_neg (by first | assumption | omega) ?_) | (with_reducible refine gdf_split (fun hg => ?_) (fun hg => ?_))
    | (with_reducible refine gdtn_pos (by first | assumption | omega) ?_) | (with_reducible refine gdtn_neg (by first | assumption | omega) ?_) | (with_reducible refine gdtn_split (fun hg => ?_) (fun hg => ?_))
    | (with_reducible refine gdfn_pos (by first | assumption | omega) ?_) | (with_reducible refine gdfn_neg (by first | assumption | omega) ?_) | (with_reducible refine gdfn_split (fun hg => ?_) (fun hg => ?_))
    | (with_reducible refine gdtbn_pos (by assumption) ?_) | (with_reducible refine gdtbn_neg (by assumption) ?_) | (with_reducible refine gdfbn_pos (by assumption) ?_) | (with_reducible refine gdfbn_neg (by assumption) ?_)
    | (with_reducible refine gdtb_pos (by assumption) ?_) | (with_reducible refine gdtb_neg (by assumption) ?_) | (with_reducible refine gdtb_split (fun hg => ?_) (fun hg => ?_))
    | (with_reducible refine gdfb_pos (by assumption) ?_) | (with_reducible refine gdfb_neg (by assumption) ?_) | (with_reducible refine gdfb_split (fun hg => ?_) (fun hg => ?_))
    | (with_reducible refine pickT ?_) | (with_reducible refine pickF ?_)
    | (with_reducible refine pick_pos (by first | assumption | omega) ?_) | (with_reducible refine pick_neg (by first | assumption | omega) ?_)
    | (with_reducible refine pickn_pos (by first | assumption | omega) ?_) | (with_reducible refine pickn_neg (by first | assumption | omega) ?_)
    | (with_reducible refine pickbn_pos (by assumption) ?_) | (with_reducible refine pickbn_neg (by assumption) ?_)
    | (with_reducible refine pickb_pos (by assumption) ?_) | (with_reducible refine pickb_neg (by assumption) ?_)
    | (with_reducible refine condT ?_) | (with_reducible refine condF ?_)
    | (with_reducible refine cond_pos (by first | assumption | omega) ?_) | (with_reducible refine cond_neg (by first | assumption | omega) ?_) | (with_reducible refine condM_dec (fun hg => ?_) (fun hg => ?_))
    | (with_reducible refine condn_pos (by first | assumption | omega) ?_) | (with_reducible refine condn_neg (by first | assumption | omega) ?_) | (with_reducible refine condM_ndec (fun hg => ?_) (fun hg => ?_))
    | (with_reducible refine condbn_pos (by assumption) ?_) | (with_reducible refine condbn_neg (by assumption) ?_) | (with_reducible refine condbn_split (fun hg => ?_) (fun hg => ?_))
    | (with_reducible refine condb_pos (by assumption) ?_) | (with_reducible refine condb_neg (by assumption) ?_) | (with_reducible refine condM_b (fun hg => ?_) (fun hg => ?_))
    | ((with_reducible refine oM_gen (fun Kv hK => ?_)); simp [go_sem]; (try simp (disch := omega) only [wrapI64, wrapU8, wrapU32, wrapU64]); (first | refine hK _ _ ?_ | refine And.intro (by omega) (hK _ _ ?_)); clear hK; clear Kv)))
    have hrts := rdTexts_enc ps [] (by omega) (fun p hp => by have := hpx p hp; omega)
    rw [List.append_nil] at hrts
    refine itemsText_ok _ _ (hl.below hb8 hl.size) (by omega) (by simp only; omega) Rd.ok_good hr8 (fun g w9 hr9 hg9 hown9 => ?_)
    rw [hrts] at hr9 hown9
    have hb9 := below_rd hb8 hz7 hg9
    have hgot := RowOf.of_owns hown9
    obtain ⟨ag, cg, rfl, hgc⟩ := hgot
    simp only at hgc hr9
    have hpl' : (ps.length : Int) = l.length := by omega
    repeat (any_goals (first
    | (with_reducible refine pureM_in ?_)
    | (with_reducible refine pureQ_in ?_) | (with_reducible refine gdQ_conv (fun _ => ?_)) | (with_reducible refine pickQT ?_) | (with_reducible refine pickQF ?_) | (with_reducible refine pickQ_pos (by first | assumption | omega) ?_) | (with_reducible refine pickQ_neg (by first | assumption | omega) ?_) | (with_reducible refine pickQn_pos (by first | assumption | omega) ?_) | (with_reducible refine pickQn_neg (by first | assumption | omega) ?_) | ((with_reducible refine oQ_one ?_ ?_); exact ⟨_, rfl⟩) | (with_reducible refine And.intro (Eq.refl (α := World) _) ?_) | (with_reducible refine forall_one ?_) | (with_reducible refine oQ_nil ?_) | (with_reducible refine oQ_of ⟨_, rfl⟩ (fun W0 hW0 => by (refine oM_gen (fun Kv hK => ?_)); simp [go_sem]; (first | exact hK _ _ ⟨rfl, rfl⟩ | exact ⟨by omega, hK _ _ ⟨rfl, rfl⟩⟩)) ?_)
    | (with_reducible refine gdtT ?_) | (with_reducible refine gdtF ?_) | (with_reducible refine gdfF ?_) | (with_reducible refine gdfT ?_) | (with_reducible refine gdu ?_ _)
    | (with_reducible refine gdt_pos (by first | assumption | omega) ?_) | (with_reducible refine gdt_neg (by first | assumption | omega) ?_) | (with_reducible refine gdt_split (fun hg => ?_) (fun hg => ?_))
    | (with_reducible refine gdf_pos (by first | assumption | omega) ?_) | (with_reducible refine gdf_neg (by first | assumption | omega) ?_) | (with_reducible refine gdf_split (fun hg => ?_) (fun hg => ?_))
    | (with_reducible refine gdtn_pos (by first | assumption | omega) ?_) | (with_reducible refine gdtn_neg (by first | assumption | omega) ?_) | (with_reducible refine gdtn_split (fun hg => ?_) (fun hg => ?_))
    | (with_reducible refine gdfn_pos (by first | assumption | omega) ?_) | (with_reducible refine gdfn_neg (by first | assumption | omega) ?_) | (with_reducible refine gdfn_split (fun hg => ?_) (fun hg => ?_))
    | (with_reducible refine gdtbn_pos (by assumption) ?_) | (with_reducible refine gdtbn_neg (by assumption) ?_) | (with_reducible refine gdfbn_pos (by assumption) ?_) | (with_reducible refine gdfbn_neg (by assumption) ?_)
    | (with_reducible refine gdtb_pos (by assumption) ?_) | (with_reducible refine gdtb_neg (by assumption) ?_) | (with_reducible refine gdtb_split (fun hg => ?_) (fun hg => ?_))
    | (with_reducible refine gdfb_pos (by assumption) ?_) | (with_reducible refine gdfb_neg (by assumption) ?_) | (with_reducible refine gdfb_split (fun hg => ?_) (fun hg => ?_))
    | (with_reducible refine pickT ?_) | (with_reducible refine pickF ?_)
    | (with_reducible refine pick_pos (by first | assumption | omega) ?_) | (with_reducible refine pick_neg (by first | assumption | omega) ?_)
    | (with_reducible refine pickn_pos (by first | assumption | omega) ?_) | (with_reducible refine pickn_neg (by first | assumption | omega) ?_)
    | (with_reducible refine pickbn_pos (by assumption) ?_) | (with_reducible refine pickbn_neg (by assumption) ?_)
    | (with_reducible refine pickb_pos (by assumption) ?_) | (with_reducible refine pickb_neg (by assumption) ?_)
    | (with_reducible refine condT ?_) | (with_reducible refine condF ?_)
    | (with_reducible refine cond_pos (by first | assumption | omega) ?_) | (with_reducible refine cond_neg (by first | assumption | omega) ?_) | (with_reducible refine condM_dec (fun hg => ?_) (fun hg => ?_))
    | (with_reducible refine condn_pos (by first | assumption | omega) ?_) | (with_reducible refine condn_neg (by first | assumption | omega) ?_) | (with_reducible refine condM_ndec (fun hg => ?_) (fun hg => ?_))
    | (with_reducible refine condbn_pos (by assumption) ?_) | (with_reducible refine condbn_neg (by assumption) ?_) | (with_reducible refine condbn_split (fun hg => ?_) (fun hg => ?_))
    | (with_reducible refine condb_pos (by assumption) ?_) | (with_reducible refine condb_neg (by assumption) ?_) | (with_reducible refine condM_b (fun hg => ?_) (fun hg => ?_))
    | ((with_reducible refine oM_gen (fun Kv hK => ?_)); simp [go_sem]; (try simp (disch := omega) only [wrapI64, wrapU8, wrapU32, wrapU64]); (first | refine hK _ _ ?_ | refine And.intro (by omega) (hK _ _ ?_)); clear hK; clear Kv)))
    refine done_ok _ _ hr9 ?_
    rw [show rdDone ⟨[], false⟩ = true from rfl]
    repeat (any_goals (first
    | (with_reducible refine pureM_in ?_)
    | (with_reducible refine pureQ_in ?_) | (with_reducible refine gdQ_conv (fun _ => ?_)) | (with_reducible refine pickQT ?_) | (with_reducible refine pickQF ?_) | (with_reducible refine pickQ_pos (by first | assumption | omega) ?_) | (with_reducible refine pickQ_neg (by first | assumption | omega) ?_) | (with_reducible refine pickQn_pos (by first | assumption | omega) ?_) | (with_reducible refine pickQn_neg (by first | assumption | omega) ?_) | ((with_reducible refine oQ_one ?_ ?_); exact ⟨_, rfl⟩) | (with_reducible refine And.intro (Eq.refl (α := World) _) ?_) | (with_reducible refine forall_one ?_) | (with_reducible refine oQ_nil ?_) | (with_reducible refine oQ_of ⟨_, rfl⟩ (fun W0 hW0 => by (refine oM_gen (fun Kv hK => ?_)); simp [go_sem]; (first | exact hK _ _ ⟨rfl, rfl⟩ | exact ⟨by omega, hK _ _ ⟨rfl, rfl⟩⟩)) ?_)
    | (with_reducible refine gdtT ?_) | (with_reducible refine gdtF ?_) | (with_reducible refine gdfF ?_) | (with_reducible refine gdfT ?_) | (with_reducible refine gdu ?_ _)
    | (with_reducible refine gdt_pos (by first | assumption | omega) ?_) | (with_reducible refine gdt_neg (by first | assumption | omega) ?_) | (with_reducible refine gdt_split (fun hg => ?_) (fun hg => ?_))
    | (with_reducible refine gdf_pos (by first | assumption | omega) ?_) | (with_reducible refine gdf_neg (by first | assumption | omega) ?_) | (with_reducible refine gdf_split (fun hg => ?_) (fun hg => ?_))
    | (with_reducible refine gdtn_pos (by first | assumption | omega) ?_) | (with_reducible refine gdtn_neg (by first | assumption | omega) ?_) | (with_reducible refine gdtn_split (fun hg => ?_) (fun hg => ?_))
    | (with_reducible refine gdfn_pos (by first | assumption | omega) ?_) | (with_reducible refine gdfn_neg (by first | assumption | omega) ?_) | (with_reducible refine gdfn_split (fun hg => ?_) (fun hg => ?_))
    | (with_reducible refine gdtbn_pos (by assumption) ?_) | (with_reducible refine gdtbn_neg (by assumption) ?_) | (with_reducible refine gdfbn_pos (by assumption) ?_) | (with_reducible refine gdfbn_neg (by assumption) ?_)
    | (with_reducible refine gdtb_pos (by assumption) ?_) | (with_reducible refine gdtb_neg (by assumption) ?_) | (with_reducible refine gdtb_split (fun hg => ?_) (fun hg => ?_))
    | (with_reducible refine gdfb_pos (by assumption) ?_) | (with_reducible refine gdfb_neg (by assumption) ?_) | (with_reducible refine gdfb_split (fun hg => ?_) (fun hg => ?_))
    | (with_reducible refine pickT ?_) | (with_reducible refine pickF ?_)
    | (with_reducible refine pick_pos (by first | assumption | omega) ?_) | (with_reducible refine pick_neg (by first | assumption | omega) ?_)
    | (with_reducible refine pickn_pos (by first | assumption | omega) ?_) | (with_reducible refine pickn_neg (by first | assumption | omega) ?_)
    | (with_reducible refine pickbn_pos (by assumption) ?_) | (with_reducible refine pickbn_neg (by assumption) ?_)
    | (with_reducible refine pickb_pos (by assumption) ?_) | (with_reducible refine pickb_neg (by assumption) ?_)
    | (with_reducible refine condT ?_) | (with_reducible refine condF ?_)
    | (with_reducible refine cond_pos (by first | assumption | omega) ?_) | (with_reducible refine cond_neg (by first | assumption | omega) ?_) | (with_reducible refine condM_dec (fun hg => ?_) (fun hg => ?_))
    | (with_reducible refine condn_pos (by first | assumption | omega) ?_) | (with_reducible refine condn_neg (by first | assumption | omega) ?_) | (with_reducible refine condM_ndec (fun hg => ?_) (fun hg => ?_))
    | (with_reducible refine condbn_pos (by assumption) ?_) | (with_reducible refine condbn_neg (by assumption) ?_) | (with_reducible refine condbn_split (fun hg => ?_) (fun hg => ?_))
    | (with_reducible refine condb_pos (by assumption) ?_) | (with_reducible refine condb_neg (by assumption) ?_) | (with_reducible refine condM_b (fun hg => ?_) (fun hg => ?_))
    | ((with_reducible refine oM_gen (fun Kv hK => ?_)); simp [go_sem]; (try simp (disch := omega) only [wrapI64, wrapU8, wrapU32, wrapU64]); (first | refine hK _ _ ?_ | refine And.intro (by omega) (hK _ _ ?_)); clear hK; clear Kv)))
    have hz9 := hb9.size
    refine ⟨fun x w' => ∃ (y : Value) (i : Nat), x = [y, .bool false, .int .i64 i] ∧ i ≤ l.length ∧ Below w9.heap.size w9 w', fun x _ => l.length - (match x with | [_, _, .int _ n] => n.toNat | _ => 0), ⟨_, 0, rfl, by omega, Below.refl _ _⟩, ?_⟩
    rintro _ _ wa ⟨y, i, rfl, hi, hba⟩
    simp only [List.getD_cons_zero, List.getD_cons_succ]
    have hbwa := hb9.trans (hba.mono hz9)
    have hza := hba.size
    by_cases hlt : i < l.length
    · rcases hrow with rfl | ⟨b, o, rfl, hbw, hcells⟩
      · simp at hlt
      obtain ⟨cs, hvc, hcl, hcell⟩ := hcells i hlt
      rcases hgc with h | ⟨bg, og, rfl, hbg, hgcells⟩
      · rw [h] at hpl; simp at hpl; omega
      have hcg := hgcells i (by omega)
      rw [hpg i hlt, ← hba.cell hbg] at hcg
      simp only [strV] at hcg
      have hix' := idx23 (b := bg) (o := og) (n := ps.length) (c := cg) (k := i) (by omega) wa
      repeat (any_goals (first
      | (with_reducible refine pureM_in ?_)
      | (with_reducible refine pureQ_in ?_) | (with_reducible refine gdQ_conv (fun _ => ?_)) | (with_reducible refine pickQT ?_) | (with_reducible refine pickQF ?_) | (with_reducible refine pickQ_pos (by first | assumption | omega) ?_) | (with_reducible refine pickQ_neg (by first | assumption | omega) ?_) | (with_reducible refine pickQn_pos (by first | assumption | omega) ?_) | (with_reducible refine pickQn_neg (by first | assumption | omega) ?_) | ((with_reducible refine oQ_one ?_ ?_); exact ⟨_, rfl⟩) | (with_reducible refine And.intro (Eq.refl (α := World) _) ?_) | (with_reducible refine forall_one ?_) | (with_reducible refine oQ_nil ?_) | (with_reducible refine oQ_of ⟨_, rfl⟩ (fun W0 hW0 => by (refine oM_gen (fun Kv hK => ?_)); simp [go_sem]; (first | exact hK _ _ ⟨rfl, rfl⟩ | exact ⟨by omega, hK _ _ ⟨rfl, rfl⟩⟩)) ?_)
      | (rw [oM_indexAddr, hix', rM_ok])
      | (with_reducible refine gdtT ?_) | (with_reducible refine gdtF ?_) | (with_reducible refine gdfF ?_) | (with_reducible refine gdfT ?_) | (with_reducible refine gdu ?_ _)
      | (with_reducible refine gdt_pos (by first | assumption | omega) ?_) | (with_reducible refine gdt_neg (by first | assumption | omega) ?_) | (with_reducible refine gdt_split (fun hg => ?_) (fun hg => ?_))
      | (with_reducible refine gdf_pos (by first | assumption | omega) ?_) | (with_reducible refine gdf_neg (by first | assumption | omega) ?_) | (with_reducible refine gdf_split (fun hg => ?_) (fun hg => ?_))
      | (with_reducible refine gdtn_pos (by first | assumption | omega) ?_) | (with_reducible refine gdtn_neg (by first | assumption | omega) ?_) | (with_reducible refine gdtn_split (fun hg => ?_) (fun hg => ?_))
      | (with_reducible refine gdfn_pos (by first | assumption | omega) ?_) | (with_reducible refine gdfn_neg (by first | assumption | omega) ?_) | (with_reducible refine gdfn_split (fun hg => ?_) (fun hg => ?_))
      | (with_reducible refine gdtbn_pos (by assumption) ?_) | (with_reducible refine gdtbn_neg (by assumption) ?_) | (with_reducible refine gdfbn_pos (by assumption) ?_) | (with_reducible refine gdfbn_neg (by assumption) ?_)
      | (with_reducible refine gdtb_pos (by assumption) ?_) | (with_reducible refine gdtb_neg (by assumption) ?_) | (with_reducible refine gdtb_split (fun hg => ?_) (fun hg => ?_))
      | (with_reducible refine gdfb_pos (by assumption) ?_) | (with_reducible refine gdfb_neg (by assumption) ?_) | (with_reducible refine gdfb_split (fun hg => ?_) (fun hg => ?_))
      | (with_reducible refine pickT ?_) | (with_reducible refine pickF ?_)
      | (with_reducible refine pick_pos (by first | assumption | omega) ?_) | (with_reducible refine pick_neg (by first | assumption | omega) ?_)
      | (with_reducible refine pickn_pos (by first | assumption | omega) ?_) | (with_reducible refine pickn_neg (by first | assumption | omega) ?_)
      | (with_reducible refine pickbn_pos (by assumption) ?_) | (with_reducible refine pickbn_neg (by assumption) ?_)
      | (with_reducible refine pickb_pos (by assumption) ?_) | (with_reducible refine pickb_neg (by assumption) ?_)
      | (with_reducible refine condT ?_) | (with_reducible refine condF ?_)
      | (with_reducible refine cond_pos (by first | assumption | omega) ?_) | (with_reducible refine cond_neg (by first | assumption | omega) ?_) | (with_reducible refine condM_dec (fun hg => ?_) (fun hg => ?_))
      | (with_reducible refine condn_pos (by first | assumption | omega) ?_) | (with_reducible refine condn_neg (by first | assumption | omega) ?_) | (with_reducible refine condM_ndec (fun hg => ?_) (fun hg => ?_))
      | (with_reducible refine condbn_pos (by assumption) ?_) | (with_reducible refine condbn_neg (by assumption) ?_) | (with_reducible refine condbn_split (fun hg => ?_) (fun hg => ?_))
      | (with_reducible refine condb_pos (by assumption) ?_) | (with_reducible refine condb_neg (by assumption) ?_) | (with_reducible refine condM_b (fun hg => ?_) (fun hg => ?_))
      | ((with_reducible refine oM_gen (fun Kv hK => ?_)); simp [go_sem, hcg]; (try simp (disch := omega) only [wrapI64, wrapU8, wrapU32, wrapU64]); (first | refine hK _ _ ?_ | refine And.intro (by omega) (hK _ _ ?_)); clear hK; clear Kv)))
      refine open_ok _ (fun wb hrb hbb => ?_)
      have hbwb := hbwa.trans (hbb.mono hbwa.size)
      have hix := idx28 (b := b) (o := o) (c := c) hlt wb
      have hld := load25 (w := wb) (b := b) (o := o + 5 * i) hcl (fun j hj => by rw [hbwb.cell hbw]; exact hcell j hj)
      have hff := few_fit _ (F2 _ (List.getElem_mem hlt)) hvc.nin hvc.lin
      have hle := hff.2
      repeat (any_goals (first
      | (with_reducible refine pureM_in ?_)
      | (with_reducible refine pureQ_in ?_) | (with_reducible refine gdQ_conv (fun _ => ?_)) | (with_reducible refine pickQT ?_) | (with_reducible refine pickQF ?_) | (with_reducible refine pickQ_pos (by first | assumption | omega) ?_) | (with_reducible refine pickQ_neg (by first | assumption | omega) ?_) | (with_reducible refine pickQn_pos (by first | assumption | omega) ?_) | (with_reducible refine pickQn_neg (by first | assumption | omega) ?_) | ((with_reducible refine oQ_one ?_ ?_); exact ⟨_, rfl⟩) | (with_reducible refine And.intro (Eq.refl (α := World) _) ?_) | (with_reducible refine forall_one ?_) | (with_reducible refine oQ_nil ?_) | (with_reducible refine oQ_of ⟨_, rfl⟩ (fun W0 hW0 => by (refine oM_gen (fun Kv hK => ?_)); simp [go_sem]; (first | exact hK _ _ ⟨rfl, rfl⟩ | exact ⟨by omega, hK _ _ ⟨rfl, rfl⟩⟩)) ?_)
      | (rw [oM_indexAddr, hix, rM_ok]) | (rw [oM_load, hld, rM_ok])
      | (with_reducible refine gdtT ?_) | (with_reducible refine gdtF ?_) | (with_reducible refine gdfF ?_) | (with_reducible refine gdfT ?_) | (with_reducible refine gdu ?_ _)
      | (with_reducible refine gdt_pos (by first | assumption | omega) ?_) | (with_reducible refine gdt_neg (by first | assumption | omega) ?_) | (with_reducible refine gdt_split (fun hg => ?_) (fun hg => ?_))
      | (with_reducible refine gdf_pos (by first | assumption | omega) ?_) | (with_reducible refine gdf_neg (by first | assumption | omega) ?_) | (with_reducible refine gdf_split (fun hg => ?_) (fun hg => ?_))
      | (with_reducible refine gdtn_pos (by first | assumption | omega) ?_) | (with_reducible refine gdtn_neg (by first | assumption | omega) ?_) | (with_reducible refine gdtn_split (fun hg => ?_) (fun hg => ?_))
      | (with_reducible refine gdfn_pos (by first | assumption | omega) ?_) | (with_reducible refine gdfn_neg (by first | assumption | omega) ?_) | (with_reducible refine gdfn_split (fun hg => ?_) (fun hg => ?_))
      | (with_reducible refine gdtbn_pos (by assumption) ?_) | (with_reducible refine gdtbn_neg (by assumption) ?_) | (with_reducible refine gdfbn_pos (by assumption) ?_) | (with_reducible refine gdfbn_neg (by assumption) ?_)
      | (with_reducible refine gdtb_pos (by assumption) ?_) | (with_reducible refine gdtb_neg (by assumption) ?_) | (with_reducible refine gdtb_split (fun hg => ?_) (fun hg => ?_))
      | (with_reducible refine gdfb_pos (by assumption) ?_) | (with_reducible refine gdfb_neg (by assumption) ?_) | (with_reducible refine gdfb_split (fun hg => ?_) (fun hg => ?_))
      | (with_reducible refine pickT ?_) | (with_reducible refine pickF ?_)
      | (with_reducible refine pick_pos (by first | assumption | omega) ?_) | (with_reducible refine pick_neg (by first | assumption | omega) ?_)
      | (with_reducible refine pickn_pos (by first | assumption | omega) ?_) | (with_reducible refine pickn_neg (by first | assumption | omega) ?_)
      | (with_reducible refine pickbn_pos (by assumption) ?_) | (with_reducible refine pickbn_neg (by assumption) ?_)
      | (with_reducible refine pickb_pos (by assumption) ?_) | (with_reducible refine pickb_neg (by assumption) ?_)
      | (with_reducible refine condT ?_) | (with_reducible refine condF ?_)
      | (with_reducible refine cond_pos (by first | assumption | omega) ?_) | (with_reducible refine cond_neg (by first | assumption | omega) ?_) | (with_reducible refine condM_dec (fun hg => ?_) (fun hg => ?_))
      | (with_reducible refine condn_pos (by first | assumption | omega) ?_) | (with_reducible refine condn_neg (by first | assumption | omega) ?_) | (with_reducible refine condM_ndec (fun hg => ?_) (fun hg => ?_))
      | (with_reducible refine condbn_pos (by assumption) ?_) | (with_reducible refine condbn_neg (by assumption) ?_) | (with_reducible refine condbn_split (fun hg => ?_) (fun hg => ?_))
      | (with_reducible refine condb_pos (by assumption) ?_) | (with_reducible refine condb_neg (by assumption) ?_) | (with_reducible refine condM_b (fun hg => ?_) (fun hg => ?_))
      | ((with_reducible refine oM_gen (fun Kv hK => ?_)); simp [go_sem, oM_eqc, eqGuard]; (try simp (disch := omega) only [wrapI64, wrapU8, wrapU32, wrapU64]); (first | refine hK _ _ ?_ | refine And.intro (by omega) (hK _ _ ?_)); clear hK; clear Kv)))
      refine equal_ok l[i] cs _ [] (hl.below hbwb hl.size) (by omega) (by rw [List.append_nil]; exact hrb) hbwb hbwa.size hvc hff.1 (by rw [List.append_nil]; omega) (fun wc hrc hgc => ?_)
      repeat (any_goals (first
      | (with_reducible refine pureM_in ?_)
      | (with_reducible refine pureQ_in ?_) | (with_reducible refine gdQ_conv (fun _ => ?_)) | (with_reducible refine pickQT ?_) | (with_reducible refine pickQF ?_) | (with_reducible refine pickQ_pos (by first | assumption | omega) ?_) | (with_reducible refine pickQ_neg (by first | assumption | omega) ?_) | (with_reducible refine pickQn_pos (by first | assumption | omega) ?_) | (with_reducible refine pickQn_neg (by first | assumption | omega) ?_) | ((with_reducible refine oQ_one ?_ ?_); exact ⟨_, rfl⟩) | (with_reducible refine And.intro (Eq.refl (α := World) _) ?_) | (with_reducible refine forall_one ?_) | (with_reducible refine oQ_nil ?_) | (with_reducible refine oQ_of ⟨_, rfl⟩ (fun W0 hW0 => by (refine oM_gen (fun Kv hK => ?_)); simp [go_sem]; (first | exact hK _ _ ⟨rfl, rfl⟩ | exact ⟨by omega, hK _ _ ⟨rfl, rfl⟩⟩)) ?_)
      | (with_reducible refine gdtT ?_) | (with_reducible refine gdtF ?_) | (with_reducible refine gdfF ?_) | (with_reducible refine gdfT ?_) | (with_reducible refine gdu ?_ _)
      | (with_reducible refine gdt_pos (by first | assumption | omega) ?_) | (with_reducible refine gdt_neg (by first | assumption | omega) ?_) | (with_reducible refine gdt_split (fun hg => ?_) (fun hg => ?_))
      | (with_reducible refine gdf_pos (by first | assumption | omega) ?_) | (with_reducible refine gdf_neg (by first | assumption | omega) ?_) | (with_reducible refine gdf_split (fun hg => ?_) (fun hg => ?_))
      | (with_reducible refine gdtn_pos (by first | assumption | omega) ?_) | (with_reducible refine gdtn_neg (by first | assumption | omega) ?_) | (with_reducible refine gdtn_split (fun hg => ?_) (fun hg => ?_))
      | (with_reducible refine gdfn_pos (by first | assumption | omega) ?_) | (with_reducible refine gdfn_neg (by first | assumption | omega) ?_) | (with_reducible refine gdfn_split (fun hg => ?_) (fun hg => ?_))
      | (with_reducible refine gdtbn_pos (by assumption) ?_) | (with_reducible refine gdtbn_neg (by assumption) ?_) | (with_reducible refine gdfbn_pos (by assumption) ?_) | (with_reducible refine gdfbn_neg (by assumption) ?_)
      | (with_reducible refine gdtb_pos (by assumption) ?_) | (with_reducible refine gdtb_neg (by assumption) ?_) | (with_reducible refine gdtb_split (fun hg => ?_) (fun hg => ?_))
      | (with_reducible refine gdfb_pos (by assumption) ?_) | (with_reducible refine gdfb_neg (by assumption) ?_) | (with_reducible refine gdfb_split (fun hg => ?_) (fun hg => ?_))
      | (with_reducible refine pickT ?_) | (with_reducible refine pickF ?_)
      | (with_reducible refine pick_pos (by first | assumption | omega) ?_) | (with_reducible refine pick_neg (by first | assumption | omega) ?_)
      | (with_reducible refine pickn_pos (by first | assumption | omega) ?_) | (with_reducible refine pickn_neg (by first | assumption | omega) ?_)
      | (with_reducible refine pickbn_pos (by assumption) ?_) | (with_reducible refine pickbn_neg (by assumption) ?_)
      | (with_reducible refine pickb_pos (by assumption) ?_) | (with_reducible refine pickb_neg (by assumption) ?_)
      | (with_reducible refine condT ?_) | (with_reducible refine condF ?_)
      | (with_reducible refine cond_pos (by first | assumption | omega) ?_) | (with_reducible refine cond_neg (by first | assumption | omega) ?_) | (with_reducible refine condM_dec (fun hg => ?_) (fun hg => ?_))
      | (with_reducible refine condn_pos (by first | assumption | omega) ?_) | (with_reducible refine condn_neg (by first | assumption | omega) ?_) | (with_reducible refine condM_ndec (fun hg => ?_) (fun hg => ?_))
      | (with_reducible refine condbn_pos (by assumption) ?_) | (with_reducible refine condbn_neg (by assumption) ?_) | (with_reducible refine condbn_split (fun hg => ?_) (fun hg => ?_))
      | (with_reducible refine condb_pos (by assumption) ?_) | (with_reducible refine condb_neg (by assumption) ?_) | (with_reducible refine condM_b (fun hg => ?_) (fun hg => ?_))
      | ((with_reducible refine oM_gen (fun Kv hK => ?_)); simp [go_sem]; (try simp (disch := omega) only [wrapI64, wrapU8, wrapU32, wrapU64]); (first | refine hK _ _ ?_ | refine And.intro (by omega) (hK _ _ ?_)); clear hK; clear Kv)))
      refine done_ok _ _ hrc ?_
      rw [show rdDone ⟨[], false⟩ = true from rfl]
      repeat (any_goals (first
      | (with_reducible refine pureM_in ?_)
      | (with_reducible refine pureQ_in ?_) | (with_reducible refine gdQ_conv (fun _ => ?_)) | (with_reducible refine pickQT ?_) | (with_reducible refine pickQF ?_) | (with_reducible refine pickQ_pos (by first | assumption | omega) ?_) | (with_reducible refine pickQ_neg (by first | assumption | omega) ?_) | (with_reducible refine pickQn_pos (by first | assumption | omega) ?_) | (with_reducible refine pickQn_neg (by first | assumption | omega) ?_) | ((with_reducible refine oQ_one ?_ ?_); exact ⟨_, rfl⟩) | (with_reducible refine And.intro (Eq.refl (α := World) _) ?_) | (with_reducible refine forall_one ?_) | (with_reducible refine oQ_nil ?_) | (with_reducible refine oQ_of ⟨_, rfl⟩ (fun W0 hW0 => by (refine oM_gen (fun Kv hK => ?_)); simp [go_sem]; (first | exact hK _ _ ⟨rfl, rfl⟩ | exact ⟨by omega, hK _ _ ⟨rfl, rfl⟩⟩)) ?_)
      | (with_reducible refine gdtT ?_) | (with_reducible refine gdtF ?_) | (with_reducible refine gdfF ?_) | (with_reducible refine gdfT ?_) | (with_reducible refine gdu ?_ _)
      | (with_reducible refine gdt_pos (by first | assumption | omega) ?_) | (with_reducible refine gdt_neg (by first | assumption | omega) ?_) | (with_reducible refine gdt_split (fun hg => ?_) (fun hg => ?_))
      | (with_reducible refine gdf_pos (by first | assumption | omega) ?_) | (with_reducible refine gdf_neg (by first | assumption | omega) ?_) | (with_reducible refine gdf_split (fun hg => ?_) (fun hg => ?_))
      | (with_reducible refine gdtn_pos (by first | assumption | omega) ?_) | (with_reducible refine gdtn_neg (by first | assumption | omega) ?_) | (with_reducible refine gdtn_split (fun hg => ?_) (fun hg => ?_))
      | (with_reducible refine gdfn_pos (by first | assumption | omega) ?_) | (with_reducible refine gdfn_neg (by first | assumption | omega) ?_) | (with_reducible refine gdfn_split (fun hg => ?_) (fun hg => ?_))
      | (with_reducible refine gdtbn_pos (by assumption) ?_) | (with_reducible refine gdtbn_neg (by assumption) ?_) | (with_reducible refine gdfbn_pos (by assumption) ?_) | (with_reducible refine gdfbn_neg (by assumption) ?_)
      | (with_reducible refine gdtb_pos (by assumption) ?_) | (with_reducible refine gdtb_neg (by assumption) ?_) | (with_reducible refine gdtb_split (fun hg => ?_) (fun hg => ?_))
      | (with_reducible refine gdfb_pos (by assumption) ?_) | (with_reducible refine gdfb_neg (by assumption) ?_) | (with_reducible refine gdfb_split (fun hg => ?_) (fun hg => ?_))
      | (with_reducible refine pickT ?_) | (with_reducible refine pickF ?_)
      | (with_reducible refine pick_pos (by first | assumption | omega) ?_) | (with_reducible refine pick_neg (by first | assumption | omega) ?_)
      | (with_reducible refine pickn_pos (by first | assumption | omega) ?_) | (with_reducible refine pickn_neg (by first | assumption | omega) ?_)
      | (with_reducible refine pickbn_pos (by assumption) ?_) | (with_reducible refine pickbn_neg (by assumption) ?_)
      | (with_reducible refine pickb_pos (by assumption) ?_) | (with_reducible refine pickb_neg (by assumption) ?_)
      | (with_reducible refine condT ?_) | (with_reducible refine condF ?_)
      | (with_reducible refine cond_pos (by first | assumption | omega) ?_) | (with_reducible refine cond_neg (by first | assumption | omega) ?_) | (with_reducible refine condM_dec (fun hg => ?_) (fun hg => ?_))
      | (with_reducible refine condn_pos (by first | assumption | omega) ?_) | (with_reducible refine condn_neg (by first | assumption | omega) ?_) | (with_reducible refine condM_ndec (fun hg => ?_) (fun hg => ?_))
      | (with_reducible refine condbn_pos (by assumption) ?_) | (with_reducible refine condbn_neg (by assumption) ?_) | (with_reducible refine condbn_split (fun hg => ?_) (fun hg => ?_))
      | (with_reducible refine condb_pos (by assumption) ?_) | (with_reducible refine condb_neg (by assumption) ?_) | (with_reducible refine condM_b (fun hg => ?_) (fun hg => ?_))
      | ((with_reducible refine oM_gen (fun Kv hK => ?_)); simp [go_sem]; (try simp (disch := omega) only [wrapI64, wrapU8, wrapU32, wrapU64]); (first | refine hK _ _ ?_ | refine And.intro (by omega) (hK _ _ ?_)); clear hK; clear Kv)))
      exact ⟨⟨_, i + 1, rfl, hlt, hba.trans (below_of_grown (grownBy_trans (grown_of_below hbb _) hgc) hza (fun k hk => by cases hk; exact hza))⟩, by simp; omega⟩
    · repeat (any_goals (first
      | (with_reducible refine pureM_in ?_)
      | (with_reducible refine pureQ_in ?_) | (with_reducible refine gdQ_conv (fun _ => ?_)) | (with_reducible refine pickQT ?_) | (with_reducible refine pickQF ?_) | (with_reducible refine pickQ_pos (by first | assumption | omega) ?_) | (with_reducible refine pickQ_neg (by first | assumption | omega) ?_) | (with_reducible refine pickQn_pos (by first | assumption | omega) ?_) | (with_reducible refine pickQn_neg (by first | assumption | omega) ?_) | ((with_reducible refine oQ_one ?_ ?_); exact ⟨_, rfl⟩) | (with_reducible refine And.intro (Eq.refl (α := World) _) ?_) | (with_reducible refine forall_one ?_) | (with_reducible refine oQ_nil ?_) | (with_reducible refine oQ_of ⟨_, rfl⟩ (fun W0 hW0 => by (refine oM_gen (fun Kv hK => ?_)); simp [go_sem]; (first | exact hK _ _ ⟨rfl, rfl⟩ | exact ⟨by omega, hK _ _ ⟨rfl, rfl⟩⟩)) ?_)
      | (with_reducible refine gdtT ?_) | (with_reducible refine gdtF ?_) | (with_reducible refine gdfF ?_) | (with_reducible refine gdfT ?_) | (with_reducible refine gdu ?_ _)
      | (with_reducible refine gdt_pos (by first | assumption | omega) ?_) | (with_reducible refine gdt_neg (by first | assumption | omega) ?_) | (with_reducible refine gdt_split (fun hg => ?_) (fun hg => ?_))
      | (with_reducible refine gdf_pos (by first | assumption | omega) ?_) | (with_reducible refine gdf_neg (by first | assumption | omega) ?_) | (with_reducible refine gdf_split (fun hg => ?_) (fun hg => ?_))
      | (with_reducible refine gdtn_pos (by first | assumption | omega) ?_) | (with_reducible refine gdtn_neg (by first | assumption | omega) ?_) | (with_reducible refine gdtn_split (fun hg => ?_) (fun hg => ?_))
      | (with_reducible refine gdfn_pos (by first | assumption | omega) ?_) | (with_reducible refine gdfn_neg (by first | assumption | omega) ?_) | (with_reducible refine gdfn_split (fun hg => ?_) (fun hg => ?_))
      | (with_reducible refine gdtbn_pos (by assumption) ?_) | (with_reducible refine gdtbn_neg (by assumption) ?_) | (with_reducible refine gdfbn_pos (by assumption) ?_) | (with_reducible refine gdfbn_neg (by assumption) ?_)
      | (with_reducible refine gdtb_pos (by assumption) ?_) | (with_reducible refine gdtb_neg (by assumption) ?_) | (with_reducible refine gdtb_split (fun hg => ?_) (fun hg => ?_))
      | (with_reducible refine gdfb_pos (by assumption) ?_) | (with_reducible refine gdfb_neg (by assumption) ?_) | (with_reducible refine gdfb_split (fun hg => ?_) (fun hg => ?_))
      | (with_reducible refine pickT ?_) | (with_reducible refine pickF ?_)
      | (with_reducible refine pick_pos (by first | assumption | omega) ?_) | (with_reducible refine pick_neg (by first | assumption | omega) ?_)
      | (with_reducible refine pickn_pos (by first | assumption | omega) ?_) | (with_reducible refine pickn_neg (by first | assumption | omega) ?_)
      | (with_reducible refine pickbn_pos (by assumption) ?_) | (with_reducible refine pickbn_neg (by assumption) ?_)
      | (with_reducible refine pickb_pos (by assumption) ?_) | (with_reducible refine pickb_neg (by assumption) ?_)
      | (with_reducible refine condT ?_) | (with_reducible refine condF ?_)
      | (with_reducible refine cond_pos (by first | assumption | omega) ?_) | (with_reducible refine cond_neg (by first | assumption | omega) ?_) | (with_reducible refine condM_dec (fun hg => ?_) (fun hg => ?_))
      | (with_reducible refine condn_pos (by first | assumption | omega) ?_) | (with_reducible refine condn_neg (by first | assumption | omega) ?_) | (with_reducible refine condM_ndec (fun hg => ?_) (fun hg => ?_))
      | (with_reducible refine condbn_pos (by assumption) ?_) | (with_reducible refine condbn_neg (by assumption) ?_) | (with_reducible refine condbn_split (fun hg => ?_) (fun hg => ?_))
      | (with_reducible refine condb_pos (by assumption) ?_) | (with_reducible refine condb_neg (by assumption) ?_) | (with_reducible refine condM_b (fun hg => ?_) (fun hg => ?_))
      | ((with_reducible refine oM_gen (fun Kv hK => ?_)); simp [go_sem]; (try simp (disch := omega) only [wrapI64, wrapU8, wrapU32, wrapU64]); (first | refine hK _ _ ?_ | refine And.intro (by omega) (hK _ _ ?_)); clear hK; clear Kv)))
      exact k wa hbwa
end Go.Proofs
