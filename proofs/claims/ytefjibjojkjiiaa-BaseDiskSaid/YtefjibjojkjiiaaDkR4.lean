/- DkR4: a part of the proof of the seat's statements: lemmas about the given translation and plain laws. No condition of its own. -/
--Q
import Derived.Test.YtefjibjojkjiiaaDkR3
set_option linter.all false
namespace Go.Proofs
open Go Go.Sh Go.RowKit DkSpec
set_option linter.unusedSimpArgs false
set_option linter.unusedVariables false
set_option maxRecDepth 10000
section
variable {w w' : World} {b : Nat} {A : Ab} {h : Rh} {K : Value → World → Prop}
theorem set_step (p t : Bs) (a i : Nat) (hi : i < t.length) (hp : a + t.length ≤ p.length) : (p.take a ++ t.take i ++ p.drop (a + i)).set (a + i) t[i] = p.take a ++ t.take (i + 1) ++ p.drop (a + (i + 1)) := by
  have e1 : (p.take a ++ t.take i).length = a + i := by simp; omega
  rw [List.set_append_right _ _ (by omega), e1, Nat.sub_self, List.drop_eq_getElem_cons (by omega), List.set_cons_zero]
  rw [show t.take (i + 1) = t.take i ++ [t[i]] from List.take_succ_eq_append_getElem hi]
  simp only [List.append_assoc, List.cons_append, List.nil_append, Nat.add_assoc]
set_option maxHeartbeats 1000000 in
theorem rput_ok (s t : Bs) (a : Int) (h0 : 0 ≤ a) (ha : a + t.length ≤ 16777216) (hs : s.length ≤ 16777216) (k : ∀ w', Fr (fun _ => False) w w' → K (bsV (putB s a.toNat t)) w') : callM Try.prog 60 #[.string ⟨s.toArray⟩, .int .i64 a, .string ⟨t.toArray⟩] K w := by
  apply rf_60_ok
  unfold rf_60
  by_cases ht : t = []
  · subst ht
    repeat (any_goals (first
    | (with_reducible refine pureM_in ?_)
    | (with_reducible first|refine pureQ_in ?_|refine gdQ_conv (fun _ => ?_)|refine pickQT ?_|refine pickQF ?_|refine pickQ_pos (by first|assumption|omega) ?_|refine pickQ_neg (by first|assumption|omega) ?_|refine pickQn_pos (by first|assumption|omega) ?_|refine pickQn_neg (by first|assumption|omega) ?_) | ((with_reducible refine oQ_one ?_ ?_); exact ⟨_, rfl⟩) | (with_reducible first|refine And.intro (Eq.refl (α := World) _) ?_|refine forall_one ?_|refine oQ_nil ?_) | (with_reducible refine oQ_of ⟨_, rfl⟩ (fun W0 hW0 => by (refine oM_gen (fun Kv hK => ?_)); simp [go_sem]; (first | exact hK _ _ ⟨rfl, rfl⟩ | exact ⟨by omega, hK _ _ ⟨rfl, rfl⟩⟩)) ?_)
    | (with_reducible first|refine gdtT ?_|refine gdtF ?_|refine gdfF ?_|refine gdfT ?_|refine gdu ?_ _|refine gdt_pos (by first|assumption|omega) ?_|refine gdt_neg (by first|assumption|omega) ?_|refine gdt_split (fun hg => ?_) (fun hg => ?_)|refine gdf_pos (by first|assumption|omega) ?_|refine gdf_neg (by first|assumption|omega) ?_|refine gdf_split (fun hg => ?_) (fun hg => ?_)|refine gdtn_pos (by first|assumption|omega) ?_|refine gdtn_neg (by first|assumption|omega) ?_|refine gdtn_split (fun hg => ?_) (fun hg => ?_)|refine gdfn_pos (by first|assumption|omega) ?_|refine gdfn_neg (by first|assumption|omega) ?_|refine gdfn_split (fun hg => ?_) (fun hg => ?_)|refine gdtbn_pos (by assumption) ?_|refine gdtbn_neg (by assumption) ?_|refine gdfbn_pos (by assumption) ?_|refine gdfbn_neg (by assumption) ?_|refine gdtb_pos (by assumption) ?_|refine gdtb_neg (by assumption) ?_|refine gdtb_split (fun hg => ?_) (fun hg => ?_)|refine gdfb_pos (by assumption) ?_|refine gdfb_neg (by assumption) ?_|refine gdfb_split (fun hg => ?_) (fun hg => ?_)|refine pickT ?_|refine pickF ?_|refine pick_pos (by first|assumption|omega) ?_|refine pick_neg (by first|assumption|omega) ?_|refine pickn_pos (by first|assumption|omega) ?_|refine pickn_neg (by first|assumption|omega) ?_|refine pickbn_pos (by assumption) ?_|refine pickbn_neg (by assumption) ?_|refine pickb_pos (by assumption) ?_|refine pickb_neg (by assumption) ?_|refine condT ?_|refine condF ?_|refine cond_pos (by first|assumption|omega) ?_|refine cond_neg (by first|assumption|omega) ?_|refine condM_dec (fun hg => ?_) (fun hg => ?_)|refine condn_pos (by first|assumption|omega) ?_|refine condn_neg (by first|assumption|omega) ?_|refine condM_ndec (fun hg => ?_) (fun hg => ?_)|refine condbn_pos (by assumption) ?_|refine condbn_neg (by assumption) ?_|refine condbn_split (fun hg => ?_) (fun hg => ?_)|refine condb_pos (by assumption) ?_|refine condb_neg (by assumption) ?_|refine condM_b (fun hg => ?_) (fun hg => ?_))
    | ((with_reducible refine oM_gen (fun Kv hK => ?_)); simp [go_sem]; (try simp (disch := omega) only [wrapI64, wrapU8, wrapU32, wrapU64]); (first | refine hK _ _ ?_ | refine And.intro (by omega) (hK _ _ ?_)); clear hK; clear Kv)))
    exact k _ (Fr.refl _ _)
  have hne : ¬ ((⟨t.toArray⟩ : ByteArray) = ⟨#[]⟩) := fun e => ht ((ba_nil t).1 e)
  obtain ⟨n, rfl⟩ := Int.eq_ofNat_of_zero_le h0
  repeat (any_goals (first
  | (with_reducible refine pureM_in ?_)
  | (with_reducible first|refine pureQ_in ?_|refine gdQ_conv (fun _ => ?_)|refine pickQT ?_|refine pickQF ?_|refine pickQ_pos (by first|assumption|omega) ?_|refine pickQ_neg (by first|assumption|omega) ?_|refine pickQn_pos (by first|assumption|omega) ?_|refine pickQn_neg (by first|assumption|omega) ?_) | ((with_reducible refine oQ_one ?_ ?_); exact ⟨_, rfl⟩) | (with_reducible first|refine And.intro (Eq.refl (α := World) _) ?_|refine forall_one ?_|refine oQ_nil ?_) | (with_reducible refine oQ_of ⟨_, rfl⟩ (fun W0 hW0 => by (refine oM_gen (fun Kv hK => ?_)); simp [go_sem]; (first | exact hK _ _ ⟨rfl, rfl⟩ | exact ⟨by omega, hK _ _ ⟨rfl, rfl⟩⟩)) ?_)
  | (with_reducible first|refine gdtT ?_|refine gdtF ?_|refine gdfF ?_|refine gdfT ?_|refine gdu ?_ _|refine gdt_pos (by first|assumption|omega) ?_|refine gdt_neg (by first|assumption|omega) ?_|refine gdt_split (fun hg => ?_) (fun hg => ?_)|refine gdf_pos (by first|assumption|omega) ?_|refine gdf_neg (by first|assumption|omega) ?_|refine gdf_split (fun hg => ?_) (fun hg => ?_)|refine gdtn_pos (by first|assumption|omega) ?_|refine gdtn_neg (by first|assumption|omega) ?_|refine gdtn_split (fun hg => ?_) (fun hg => ?_)|refine gdfn_pos (by first|assumption|omega) ?_|refine gdfn_neg (by first|assumption|omega) ?_|refine gdfn_split (fun hg => ?_) (fun hg => ?_)|refine gdtbn_pos (by assumption) ?_|refine gdtbn_neg (by assumption) ?_|refine gdfbn_pos (by assumption) ?_|refine gdfbn_neg (by assumption) ?_|refine gdtb_pos (by assumption) ?_|refine gdtb_neg (by assumption) ?_|refine gdtb_split (fun hg => ?_) (fun hg => ?_)|refine gdfb_pos (by assumption) ?_|refine gdfb_neg (by assumption) ?_|refine gdfb_split (fun hg => ?_) (fun hg => ?_)|refine pickT ?_|refine pickF ?_|refine pick_pos (by first|assumption|omega) ?_|refine pick_neg (by first|assumption|omega) ?_|refine pickn_pos (by first|assumption|omega) ?_|refine pickn_neg (by first|assumption|omega) ?_|refine pickbn_pos (by assumption) ?_|refine pickbn_neg (by assumption) ?_|refine pickb_pos (by assumption) ?_|refine pickb_neg (by assumption) ?_|refine condT ?_|refine condF ?_|refine cond_pos (by first|assumption|omega) ?_|refine cond_neg (by first|assumption|omega) ?_|refine condM_dec (fun hg => ?_) (fun hg => ?_)|refine condn_pos (by first|assumption|omega) ?_|refine condn_neg (by first|assumption|omega) ?_|refine condM_ndec (fun hg => ?_) (fun hg => ?_)|refine condbn_pos (by assumption) ?_|refine condbn_neg (by assumption) ?_|refine condbn_split (fun hg => ?_) (fun hg => ?_)|refine condb_pos (by assumption) ?_|refine condb_neg (by assumption) ?_|refine condM_b (fun hg => ?_) (fun hg => ?_))
  | ((with_reducible refine oM_gen (fun Kv hK => ?_)); simp [go_sem]; (try simp (disch := omega) only [wrapI64, wrapU8, wrapU32, wrapU64]); (first | refine hK _ _ ?_ | refine And.intro (by omega) (hK _ _ ?_)); clear hK; clear Kv)))
  refine ofStr_at (e := 5) (by kernel_rfl) (by kernel_rfl) (by kernel_rfl) s (fun v w1 hB g1 hv hz1 => ?_)
  have f1 : Fr (fun _ => False) w w1 := (Fr.refl _ _).none_by g1
  refine ⟨fun l' w' => ∃ (v : Value) (m : Nat), l' = [v] ∧ BufM w' 5 v (s ++ List.replicate m 0) ∧ m ≤ n + t.length - s.length ∧ Fr (fun _ => False) w w' ∧ (∀ i, v.ownBlock = some i → w.heap.size ≤ i), fun l' _ => match l' with | [.slice _ q _] => n + t.length - q | _ => 0, ⟨v, 0, rfl, by simpa using hB, by omega, f1, fun i hi => by rw [hv] at hi; cases hi; exact Nat.le_refl _⟩, ?_⟩
  rintro l' u w2 ⟨v2, m, rfl, hB2, hm, f2, hv2⟩
  simp only [List.getD_cons_zero]
  obtain ⟨g, c, hvs, hgl⟩ := hB2.shape
  have hlen : (s ++ List.replicate m (0 : UInt8)).length = s.length + m := by simp
  rw [hlen] at hvs
  subst hvs
  repeat (any_goals (first
  | (with_reducible refine pureM_in ?_)
  | (with_reducible first|refine pureQ_in ?_|refine gdQ_conv (fun _ => ?_)|refine pickQT ?_|refine pickQF ?_|refine pickQ_pos (by first|assumption|omega) ?_|refine pickQ_neg (by first|assumption|omega) ?_|refine pickQn_pos (by first|assumption|omega) ?_|refine pickQn_neg (by first|assumption|omega) ?_) | ((with_reducible refine oQ_one ?_ ?_); exact ⟨_, rfl⟩) | (with_reducible first|refine And.intro (Eq.refl (α := World) _) ?_|refine forall_one ?_|refine oQ_nil ?_) | (with_reducible refine oQ_of ⟨_, rfl⟩ (fun W0 hW0 => by (refine oM_gen (fun Kv hK => ?_)); simp [go_sem]; (first | exact hK _ _ ⟨rfl, rfl⟩ | exact ⟨by omega, hK _ _ ⟨rfl, rfl⟩⟩)) ?_)
  | (with_reducible first|refine gdtT ?_|refine gdtF ?_|refine gdfF ?_|refine gdfT ?_|refine gdu ?_ _|refine gdt_pos (by first|assumption|omega) ?_|refine gdt_neg (by first|assumption|omega) ?_|refine gdt_split (fun hg => ?_) (fun hg => ?_)|refine gdf_pos (by first|assumption|omega) ?_|refine gdf_neg (by first|assumption|omega) ?_|refine gdf_split (fun hg => ?_) (fun hg => ?_)|refine gdtn_pos (by first|assumption|omega) ?_|refine gdtn_neg (by first|assumption|omega) ?_|refine gdtn_split (fun hg => ?_) (fun hg => ?_)|refine gdfn_pos (by first|assumption|omega) ?_|refine gdfn_neg (by first|assumption|omega) ?_|refine gdfn_split (fun hg => ?_) (fun hg => ?_)|refine gdtbn_pos (by assumption) ?_|refine gdtbn_neg (by assumption) ?_|refine gdfbn_pos (by assumption) ?_|refine gdfbn_neg (by assumption) ?_|refine gdtb_pos (by assumption) ?_|refine gdtb_neg (by assumption) ?_|refine gdtb_split (fun hg => ?_) (fun hg => ?_)|refine gdfb_pos (by assumption) ?_|refine gdfb_neg (by assumption) ?_|refine gdfb_split (fun hg => ?_) (fun hg => ?_)|refine pickT ?_|refine pickF ?_|refine pick_pos (by first|assumption|omega) ?_|refine pick_neg (by first|assumption|omega) ?_|refine pickn_pos (by first|assumption|omega) ?_|refine pickn_neg (by first|assumption|omega) ?_|refine pickbn_pos (by assumption) ?_|refine pickbn_neg (by assumption) ?_|refine pickb_pos (by assumption) ?_|refine pickb_neg (by assumption) ?_|refine condT ?_|refine condF ?_|refine cond_pos (by first|assumption|omega) ?_|refine cond_neg (by first|assumption|omega) ?_|refine condM_dec (fun hg => ?_) (fun hg => ?_)|refine condn_pos (by first|assumption|omega) ?_|refine condn_neg (by first|assumption|omega) ?_|refine condM_ndec (fun hg => ?_) (fun hg => ?_)|refine condbn_pos (by assumption) ?_|refine condbn_neg (by assumption) ?_|refine condbn_split (fun hg => ?_) (fun hg => ?_)|refine condb_pos (by assumption) ?_|refine condb_neg (by assumption) ?_|refine condM_b (fun hg => ?_) (fun hg => ?_))
  | ((with_reducible refine oM_gen (fun Kv hK => ?_)); simp [go_sem]; (try simp (disch := omega) only [wrapI64, wrapU8, wrapU32, wrapU64]); (first | refine hK _ _ ?_ | refine And.intro (by omega) (hK _ _ ?_)); clear hK; clear Kv)))
  · have g3 : Fr (fun _ => False) w2 (w2.alloc (.cells #[.int .u8 0] 5 (0, 0))) := (Fr.refl _ _).alloc _
    have n3 := heap_alloc_new w2 (.cells #[.int .u8 0] 5 (0, 0))
    generalize w2.alloc (.cells #[.int .u8 0] 5 (0, 0)) = w3 at *
    have hB3 := hB2.keep (w' := w3) (fun i hi => by cases hi; exact g3.block g hgl (fun h => h))
    have f3 := f2.trans g3 (fun _ h => h.elim)
    have e3 := cell_of_block n3 0
    refine pushB_at (i := (Try.prog.info? 5).getD default) (x := 0) (e := 5) (by kernel_rfl) (by kernel_rfl) (by kernel_rfl) (by kernel_rfl) (by kernel_rfl) hB3 e3 (by rw [hlen]; omega) (fun v' w4 hB4 g4 hv4 => ?_)
    have f4 : Fr (fun _ => False) w w4 := f3.by g4 (fun i hi => .inr (hv2 i hi))
    have e4 : s ++ List.replicate m (0 : UInt8) ++ [0] = s ++ List.replicate (m + 1) 0 := by rw [List.append_assoc, ← List.replicate_succ']
    rw [e4] at hB4
    obtain ⟨g', c', hvs', hgl'⟩ := hB4.shape
    have hlen' : (s ++ List.replicate (m + 1) (0 : UInt8)).length = s.length + (m + 1) := by simp
    rw [hlen'] at hvs'
    subst hvs'
    refine ⟨⟨_, m + 1, rfl, hB4, by omega, f4, fun i hi => ?_⟩, ?_⟩
    · rcases hv4 with e | ⟨j, e, hj⟩
      · rw [e] at hi; exact hv2 i hi
      · rw [e] at hi; cases hi; have := f3.size; omega
    · show n + t.length - (s.length + (m + 1)) < n + t.length - (s.length + m)
      omega
  · have hmx : m = n + t.length - s.length := by omega
    obtain ⟨p, hp⟩ : ∃ p, p = s ++ List.replicate m (0 : UInt8) := ⟨_, rfl⟩
    have hpl : p.length = s.length + m := by rw [hp, hlen]
    rw [← hp] at hB2
    refine ⟨fun l' w' => ∃ i : Nat, l' = [.int .i64 (i : Int)] ∧ i ≤ t.length ∧ BufM w' 5 (.slice (some ⟨g, 0, none⟩) (s.length + m) c) (p.take n ++ t.take i ++ p.drop (n + i)) ∧ Fr (fun _ => False) w w', fun l' _ => match l' with | [.int _ q] => ((t.length : Int) - q).toNat | _ => 0, ⟨0, rfl, by omega, by simpa using hB2, f2⟩, ?_⟩
    rintro l' u w5 ⟨i, rfl, hi, hB5, f5⟩
    simp only [List.getD_cons_zero]
    have hLl : (p.take n ++ t.take i ++ p.drop (n + i)).length = s.length + m := by simp; omega
    repeat (any_goals (first
    | (with_reducible refine pureM_in ?_)
    | (with_reducible first|refine pureQ_in ?_|refine gdQ_conv (fun _ => ?_)|refine pickQT ?_|refine pickQF ?_|refine pickQ_pos (by first|assumption|omega) ?_|refine pickQ_neg (by first|assumption|omega) ?_|refine pickQn_pos (by first|assumption|omega) ?_|refine pickQn_neg (by first|assumption|omega) ?_) | ((with_reducible refine oQ_one ?_ ?_); exact ⟨_, rfl⟩) | (with_reducible first|refine And.intro (Eq.refl (α := World) _) ?_|refine forall_one ?_|refine oQ_nil ?_) | (with_reducible refine oQ_of ⟨_, rfl⟩ (fun W0 hW0 => by (refine oM_gen (fun Kv hK => ?_)); simp [go_sem]; (first | exact hK _ _ ⟨rfl, rfl⟩ | exact ⟨by omega, hK _ _ ⟨rfl, rfl⟩⟩)) ?_)
    | (with_reducible first|refine gdtT ?_|refine gdtF ?_|refine gdfF ?_|refine gdfT ?_|refine gdu ?_ _|refine gdt_pos (by first|assumption|omega) ?_|refine gdt_neg (by first|assumption|omega) ?_|refine gdt_split (fun hg => ?_) (fun hg => ?_)|refine gdf_pos (by first|assumption|omega) ?_|refine gdf_neg (by first|assumption|omega) ?_|refine gdf_split (fun hg => ?_) (fun hg => ?_)|refine gdtn_pos (by first|assumption|omega) ?_|refine gdtn_neg (by first|assumption|omega) ?_|refine gdtn_split (fun hg => ?_) (fun hg => ?_)|refine gdfn_pos (by first|assumption|omega) ?_|refine gdfn_neg (by first|assumption|omega) ?_|refine gdfn_split (fun hg => ?_) (fun hg => ?_)|refine gdtbn_pos (by assumption) ?_|refine gdtbn_neg (by assumption) ?_|refine gdfbn_pos (by assumption) ?_|refine gdfbn_neg (by assumption) ?_|refine gdtb_pos (by assumption) ?_|refine gdtb_neg (by assumption) ?_|refine gdtb_split (fun hg => ?_) (fun hg => ?_)|refine gdfb_pos (by assumption) ?_|refine gdfb_neg (by assumption) ?_|refine gdfb_split (fun hg => ?_) (fun hg => ?_)|refine pickT ?_|refine pickF ?_|refine pick_pos (by first|assumption|omega) ?_|refine pick_neg (by first|assumption|omega) ?_|refine pickn_pos (by first|assumption|omega) ?_|refine pickn_neg (by first|assumption|omega) ?_|refine pickbn_pos (by assumption) ?_|refine pickbn_neg (by assumption) ?_|refine pickb_pos (by assumption) ?_|refine pickb_neg (by assumption) ?_|refine condT ?_|refine condF ?_|refine cond_pos (by first|assumption|omega) ?_|refine cond_neg (by first|assumption|omega) ?_|refine condM_dec (fun hg => ?_) (fun hg => ?_)|refine condn_pos (by first|assumption|omega) ?_|refine condn_neg (by first|assumption|omega) ?_|refine condM_ndec (fun hg => ?_) (fun hg => ?_)|refine condbn_pos (by assumption) ?_|refine condbn_neg (by assumption) ?_|refine condbn_split (fun hg => ?_) (fun hg => ?_)|refine condb_pos (by assumption) ?_|refine condb_neg (by assumption) ?_|refine condM_b (fun hg => ?_) (fun hg => ?_))
    | ((with_reducible refine oM_gen (fun Kv hK => ?_)); simp [go_sem]; (try simp (disch := omega) only [wrapI64, wrapU8, wrapU32, wrapU64]); (first | refine hK _ _ ?_ | refine And.intro (by omega) (hK _ _ ?_)); clear hK; clear Kv)))
    · have hlt : i < t.length := by omega
      have hbt : byteAt ⟨t.toArray⟩ i = t[i] := by simp [byteAt, hlt]
      have hst := set_step p t n i hlt (by omega)
      rw [← hbt] at hst
      obtain ⟨g6, c6, e6, fz6, cl6, hB6⟩ := hB5.set (j := n + i) (by omega) (byteAt ⟨t.toArray⟩ i)
      obtain ⟨x6, hx6⟩ := Option.isSome_iff_exists.1 cl6
      rw [hst] at hB6
      rw [hLl] at e6
      cases e6
      have hix : (Instr.indexAt 84 (.slice (some ⟨g, 0, none⟩) (s.length + m) c) (.int .i64 ((n : Int) + (i : Int)))).run Try.prog w5 = .ok (.pointer (some ⟨g, n + i, none⟩)) w5 := by
        rw [run_indexAt_slice (h := by kernel_rfl), if_pos (by omega)]
        have hs : (sizeOf (Try.prog.elem 84)).run Try.prog w5 = .ok 1 w5 := by kernel_rfl
        rw [hs]
        have : ((n : Int) + (i : Int)).toNat = n + i := by omega
        simp only [Result.andThen, this, add_none, Nat.mul_one, Nat.zero_add]
      repeat (any_goals (first
      | (with_reducible refine pureM_in ?_)
      | (with_reducible first|refine pureQ_in ?_|refine gdQ_conv (fun _ => ?_)|refine pickQT ?_|refine pickQF ?_|refine pickQ_pos (by first|assumption|omega) ?_|refine pickQ_neg (by first|assumption|omega) ?_|refine pickQn_pos (by first|assumption|omega) ?_|refine pickQn_neg (by first|assumption|omega) ?_) | ((with_reducible refine oQ_one ?_ ?_); exact ⟨_, rfl⟩) | (with_reducible first|refine And.intro (Eq.refl (α := World) _) ?_|refine forall_one ?_|refine oQ_nil ?_) | (with_reducible refine oQ_of ⟨_, rfl⟩ (fun W0 hW0 => by (refine oM_gen (fun Kv hK => ?_)); simp [go_sem]; (first | exact hK _ _ ⟨rfl, rfl⟩ | exact ⟨by omega, hK _ _ ⟨rfl, rfl⟩⟩)) ?_)
      | (with_reducible first|refine gdtT ?_|refine gdtF ?_|refine gdfF ?_|refine gdfT ?_|refine gdu ?_ _|refine gdt_pos (by first|assumption|omega) ?_|refine gdt_neg (by first|assumption|omega) ?_|refine gdt_split (fun hg => ?_) (fun hg => ?_)|refine gdf_pos (by first|assumption|omega) ?_|refine gdf_neg (by first|assumption|omega) ?_|refine gdf_split (fun hg => ?_) (fun hg => ?_)|refine gdtn_pos (by first|assumption|omega) ?_|refine gdtn_neg (by first|assumption|omega) ?_|refine gdtn_split (fun hg => ?_) (fun hg => ?_)|refine gdfn_pos (by first|assumption|omega) ?_|refine gdfn_neg (by first|assumption|omega) ?_|refine gdfn_split (fun hg => ?_) (fun hg => ?_)|refine gdtbn_pos (by assumption) ?_|refine gdtbn_neg (by assumption) ?_|refine gdfbn_pos (by assumption) ?_|refine gdfbn_neg (by assumption) ?_|refine gdtb_pos (by assumption) ?_|refine gdtb_neg (by assumption) ?_|refine gdtb_split (fun hg => ?_) (fun hg => ?_)|refine gdfb_pos (by assumption) ?_|refine gdfb_neg (by assumption) ?_|refine gdfb_split (fun hg => ?_) (fun hg => ?_)|refine pickT ?_|refine pickF ?_|refine pick_pos (by first|assumption|omega) ?_|refine pick_neg (by first|assumption|omega) ?_|refine pickn_pos (by first|assumption|omega) ?_|refine pickn_neg (by first|assumption|omega) ?_|refine pickbn_pos (by assumption) ?_|refine pickbn_neg (by assumption) ?_|refine pickb_pos (by assumption) ?_|refine pickb_neg (by assumption) ?_|refine condT ?_|refine condF ?_|refine cond_pos (by first|assumption|omega) ?_|refine cond_neg (by first|assumption|omega) ?_|refine condM_dec (fun hg => ?_) (fun hg => ?_)|refine condn_pos (by first|assumption|omega) ?_|refine condn_neg (by first|assumption|omega) ?_|refine condM_ndec (fun hg => ?_) (fun hg => ?_)|refine condbn_pos (by assumption) ?_|refine condbn_neg (by assumption) ?_|refine condbn_split (fun hg => ?_) (fun hg => ?_)|refine condb_pos (by assumption) ?_|refine condb_neg (by assumption) ?_|refine condM_b (fun hg => ?_) (fun hg => ?_))
      | ((with_reducible refine oM_gen (fun Kv hK => ?_)); simp [go_sem, hix, fz6, hx6]; (try simp (disch := omega) only [wrapI64, wrapU8, wrapU32, wrapU64]); (first | refine hK _ _ ?_ | refine And.intro (by omega) (hK _ _ ?_)); clear hK; clear Kv)))
      refine ⟨⟨i + 1, rfl, hlt, hB6, f5.set ⟨g, n + i, none⟩ _ (.inr (hv2 g rfl))⟩, ?_⟩
      show ((t.length : Int) - ((i : Int) + 1)).toNat < ((t.length : Int) - (i : Int)).toNat
      omega
    · have hit : i = t.length := by omega
      subst hit
      rw [List.take_of_length_le (Nat.le_refl _)] at hB5
      refine toStrM_at (e := 5) (by kernel_rfl) (by kernel_rfl) (by kernel_rfl) hB5 ?_
      have e7 : p.take n ++ t ++ p.drop (n + t.length) = putB s n t := by
        unfold putB
        rw [if_neg ht, hp, hmx]
      rw [e7]
      have := k w5 f5
      rw [Int.toNat_natCast] at this
      exact this
theorem pending_ok (d : IsRf w b A h) (f n : Int) (k : K (.bool (decide ((f, n) ∈ A.queue))) w) : callM Try.prog 61 #[dkP b, .int .i64 f, .int .i64 n] K w := by
  apply rf_61_ok
  unfold rf_61
  have c1 := d.c 1
  simp only [rfCells] at c1
  have ho := d.que
  obtain ⟨va, vc, hv⟩ := owns_len ho
  rw [hv] at ho c1
  have hql := d.wf.ql
  refine ⟨fun l' w' => w' = w ∧ ∃ (u : Value) (i : Nat), l' = [u, .int .i64 (i : Int)] ∧ i ≤ A.queue.length ∧ (f, n) ∉ A.queue.take i, fun l' _ => match l' with | [_, .int _ m] => ((A.queue.length : Int) - m).toNat | _ => 0, ⟨rfl, _, 0, rfl, by omega, by simp⟩, ?_⟩
  rintro l' u w1 ⟨rfl, u1, i, rfl, hi, hpre⟩
  simp only [List.getD_cons_zero, List.getD_cons_succ]
  repeat (any_goals (first
  | (with_reducible refine pureM_in ?_)
  | (with_reducible first|refine pureQ_in ?_|refine gdQ_conv (fun _ => ?_)|refine pickQT ?_|refine pickQF ?_|refine pickQ_pos (by first|assumption|omega) ?_|refine pickQ_neg (by first|assumption|omega) ?_|refine pickQn_pos (by first|assumption|omega) ?_|refine pickQn_neg (by first|assumption|omega) ?_) | ((with_reducible refine oQ_one ?_ ?_); exact ⟨_, rfl⟩) | (with_reducible first|refine And.intro (Eq.refl (α := World) _) ?_|refine forall_one ?_|refine oQ_nil ?_) | (with_reducible refine oQ_of ⟨_, rfl⟩ (fun W0 hW0 => by (refine oM_gen (fun Kv hK => ?_)); simp [go_sem]; (first | exact hK _ _ ⟨rfl, rfl⟩ | exact ⟨by omega, hK _ _ ⟨rfl, rfl⟩⟩)) ?_)
  | (with_reducible first|refine gdtT ?_|refine gdtF ?_|refine gdfF ?_|refine gdfT ?_|refine gdu ?_ _|refine gdt_pos (by first|assumption|omega) ?_|refine gdt_neg (by first|assumption|omega) ?_|refine gdt_split (fun hg => ?_) (fun hg => ?_)|refine gdf_pos (by first|assumption|omega) ?_|refine gdf_neg (by first|assumption|omega) ?_|refine gdf_split (fun hg => ?_) (fun hg => ?_)|refine gdtn_pos (by first|assumption|omega) ?_|refine gdtn_neg (by first|assumption|omega) ?_|refine gdtn_split (fun hg => ?_) (fun hg => ?_)|refine gdfn_pos (by first|assumption|omega) ?_|refine gdfn_neg (by first|assumption|omega) ?_|refine gdfn_split (fun hg => ?_) (fun hg => ?_)|refine gdtbn_pos (by assumption) ?_|refine gdtbn_neg (by assumption) ?_|refine gdfbn_pos (by assumption) ?_|refine gdfbn_neg (by assumption) ?_|refine gdtb_pos (by assumption) ?_|refine gdtb_neg (by assumption) ?_|refine gdtb_split (fun hg => ?_) (fun hg => ?_)|refine gdfb_pos (by assumption) ?_|refine gdfb_neg (by assumption) ?_|refine gdfb_split (fun hg => ?_) (fun hg => ?_)|refine pickT ?_|refine pickF ?_|refine pick_pos (by first|assumption|omega) ?_|refine pick_neg (by first|assumption|omega) ?_|refine pickn_pos (by first|assumption|omega) ?_|refine pickn_neg (by first|assumption|omega) ?_|refine pickbn_pos (by assumption) ?_|refine pickbn_neg (by assumption) ?_|refine pickb_pos (by assumption) ?_|refine pickb_neg (by assumption) ?_|refine condT ?_|refine condF ?_|refine cond_pos (by first|assumption|omega) ?_|refine cond_neg (by first|assumption|omega) ?_|refine condM_dec (fun hg => ?_) (fun hg => ?_)|refine condn_pos (by first|assumption|omega) ?_|refine condn_neg (by first|assumption|omega) ?_|refine condM_ndec (fun hg => ?_) (fun hg => ?_)|refine condbn_pos (by assumption) ?_|refine condbn_neg (by assumption) ?_|refine condbn_split (fun hg => ?_) (fun hg => ?_)|refine condb_pos (by assumption) ?_|refine condb_neg (by assumption) ?_|refine condM_b (fun hg => ?_) (fun hg => ?_))
  | ((with_reducible refine oM_gen (fun Kv hK => ?_)); simp [go_sem, c1]; (try simp (disch := omega) only [wrapI64, wrapU8, wrapU32, wrapU64]); (first | refine hK _ _ ?_ | refine And.intro (by omega) (hK _ _ ?_)); clear hK; clear Kv)))
  · have hlt : i < A.queue.length := by omega
    obtain ⟨g, c, he, e0, e1⟩ := secR_cells ho (List.getElem?_eq_getElem hlt)
    cases he
    have hix := idxSecR (g := g) (c := vc) hlt w1
    have step : ¬ (A.queue[i].1 = f ∧ A.queue[i].2 = n) → (f, n) ∉ A.queue.take (i + 1) := by
      intro hn hm
      rw [List.take_succ_eq_append_getElem hlt] at hm
      rcases List.mem_append.1 hm with hm | hm
      · exact hpre hm
      · simp only [List.mem_singleton] at hm
        exact hn ⟨by rw [← hm], by rw [← hm]⟩
    have meas : ((A.queue.length : Int) - ((i : Int) + 1)).toNat < ((A.queue.length : Int) - (i : Int)).toNat := by omega
    repeat (any_goals (first
    | (with_reducible refine pureM_in ?_)
    | (with_reducible first|refine pureQ_in ?_|refine gdQ_conv (fun _ => ?_)|refine pickQT ?_|refine pickQF ?_|refine pickQ_pos (by first|assumption|omega) ?_|refine pickQ_neg (by first|assumption|omega) ?_|refine pickQn_pos (by first|assumption|omega) ?_|refine pickQn_neg (by first|assumption|omega) ?_) | ((with_reducible refine oQ_one ?_ ?_); exact ⟨_, rfl⟩) | (with_reducible first|refine And.intro (Eq.refl (α := World) _) ?_|refine forall_one ?_|refine oQ_nil ?_) | (with_reducible refine oQ_of ⟨_, rfl⟩ (fun W0 hW0 => by (refine oM_gen (fun Kv hK => ?_)); simp [go_sem]; (first | exact hK _ _ ⟨rfl, rfl⟩ | exact ⟨by omega, hK _ _ ⟨rfl, rfl⟩⟩)) ?_)
    | (with_reducible first|refine gdtT ?_|refine gdtF ?_|refine gdfF ?_|refine gdfT ?_|refine gdu ?_ _|refine gdt_pos (by first|assumption|omega) ?_|refine gdt_neg (by first|assumption|omega) ?_|refine gdt_split (fun hg => ?_) (fun hg => ?_)|refine gdf_pos (by first|assumption|omega) ?_|refine gdf_neg (by first|assumption|omega) ?_|refine gdf_split (fun hg => ?_) (fun hg => ?_)|refine gdtn_pos (by first|assumption|omega) ?_|refine gdtn_neg (by first|assumption|omega) ?_|refine gdtn_split (fun hg => ?_) (fun hg => ?_)|refine gdfn_pos (by first|assumption|omega) ?_|refine gdfn_neg (by first|assumption|omega) ?_|refine gdfn_split (fun hg => ?_) (fun hg => ?_)|refine gdtbn_pos (by assumption) ?_|refine gdtbn_neg (by assumption) ?_|refine gdfbn_pos (by assumption) ?_|refine gdfbn_neg (by assumption) ?_|refine gdtb_pos (by assumption) ?_|refine gdtb_neg (by assumption) ?_|refine gdtb_split (fun hg => ?_) (fun hg => ?_)|refine gdfb_pos (by assumption) ?_|refine gdfb_neg (by assumption) ?_|refine gdfb_split (fun hg => ?_) (fun hg => ?_)|refine pickT ?_|refine pickF ?_|refine pick_pos (by first|assumption|omega) ?_|refine pick_neg (by first|assumption|omega) ?_|refine pickn_pos (by first|assumption|omega) ?_|refine pickn_neg (by first|assumption|omega) ?_|refine pickbn_pos (by assumption) ?_|refine pickbn_neg (by assumption) ?_|refine pickb_pos (by assumption) ?_|refine pickb_neg (by assumption) ?_|refine condT ?_|refine condF ?_|refine cond_pos (by first|assumption|omega) ?_|refine cond_neg (by first|assumption|omega) ?_|refine condM_dec (fun hg => ?_) (fun hg => ?_)|refine condn_pos (by first|assumption|omega) ?_|refine condn_neg (by first|assumption|omega) ?_|refine condM_ndec (fun hg => ?_) (fun hg => ?_)|refine condbn_pos (by assumption) ?_|refine condbn_neg (by assumption) ?_|refine condbn_split (fun hg => ?_) (fun hg => ?_)|refine condb_pos (by assumption) ?_|refine condb_neg (by assumption) ?_|refine condM_b (fun hg => ?_) (fun hg => ?_))
    | ((with_reducible refine oM_gen (fun Kv hK => ?_)); simp [go_sem, c1, hix, e0, e1]; (try simp (disch := omega) only [wrapI64, wrapU8, wrapU32, wrapU64]); (first | refine hK _ _ ?_ | refine And.intro (by omega) (hK _ _ ?_)); clear hK; clear Kv)))
    · have h1 : A.queue[i].1 = f := by assumption
      have h2 : A.queue[i].2 = n := by assumption
      have hm : (f, n) ∈ A.queue := by
        have := List.getElem_mem hlt
        have e : A.queue[i] = (f, n) := Prod.ext h1 h2
        rw [← e]; exact this
      rw [decide_eq_true hm] at k
      exact k
    · have h2 : ¬ A.queue[i].2 = n := by assumption
      exact ⟨⟨rfl, _, i + 1, rfl, hlt, step (fun e => h2 e.2)⟩, meas⟩
    · have h1 : ¬ A.queue[i].1 = f := by assumption
      exact ⟨⟨rfl, _, i + 1, rfl, hlt, step (fun e => h1 e.1)⟩, meas⟩
  · rw [List.take_of_length_le (by omega)] at hpre
    rw [decide_eq_false hpre] at k
    exact k
end
end Go.Proofs
