/- DkG: a part of the proof of the seat's statements: lemmas about the given translation and plain laws. No condition of its own. -/
--Q
import Derived.Test.YtefjibjojkjiiaaDkF
import Derived.Test.YtefjibjojkjiiaaShMap6
set_option linter.all false
namespace Go.Proofs
open Go Go.Sh Go.RowKit DkSpec
set_option linter.unusedSimpArgs false
set_option maxRecDepth 10000
section
variable {w : World} {b : Nat} {A : Ab} {h : Dk} {K : Value → World → Prop}
theorem oM_callv2 {P : Program} {f : FuncId} {fs cs : Array Value} {T : TypeId} {ts : Array TypeId} {x y : Value} (hb : isBody P f = true) (h : callM P f (fs ++ #[x, y] ++ cs) K w) : oM P (.call { callee := .value (.tmp 0), args := #[.tmp 1, .tmp 2], argTypes := ts }) T [.func (.func f) fs cs, x, y] K w :=
  oM_callv _ hb (by simp [xop, execOp, evalL, evE, resolve, Deferred.ofValue, invoke]) h
theorem deleteMap_ok {x sm : Nat} {f : Int} {ls : List ((Int × Int) × Value)} (hx : w.heap[x]? = some (.cells #[.int .i64 f] 3 (0, 0))) (m : MapIs secV w sm ls) (k : ∀ w', MapIs secV w' sm (ls.filter (fun y => decide (y.1.1 ≠ f))) → Fr (fun i => i = sm) w w' → K (.tuple #[]) w') : callM Try.prog 57 #[.map (some sm), .func (.func 58) #[] #[.pointer (some ⟨x, 0, none⟩)]] K w := by
  apply sh_57_ok
  unfold sh_57
  obtain ⟨o, hr, R⟩ := run_range (P := Try.prog) (t := 51) (kt := 69) (et := 4) (by kernel_rfl) m
  have f0 : Fr (fun i => i = sm) w (w.alloc o) := (Fr.refl _ _).alloc _
  repeat (any_goals (first
  | (with_reducible refine pureM_in ?_)
  | (with_reducible first|refine pureQ_in ?_|refine gdQ_conv (fun _ => ?_)|refine pickQT ?_|refine pickQF ?_|refine pickQ_pos (by first|assumption|omega) ?_|refine pickQ_neg (by first|assumption|omega) ?_|refine pickQn_pos (by first|assumption|omega) ?_|refine pickQn_neg (by first|assumption|omega) ?_) | ((with_reducible refine oQ_one ?_ ?_); exact ⟨_, rfl⟩) | (with_reducible first|refine And.intro (Eq.refl (α := World) _) ?_|refine forall_one ?_|refine oQ_nil ?_) | (with_reducible refine oQ_of ⟨_, rfl⟩ (fun W0 hW0 => by (refine oM_gen (fun Kv hK => ?_)); simp [go_sem]; (first | exact hK _ _ ⟨rfl, rfl⟩ | exact ⟨by omega, hK _ _ ⟨rfl, rfl⟩⟩)) ?_)
  | (with_reducible first|refine gdtT ?_|refine gdtF ?_|refine gdfF ?_|refine gdfT ?_|refine gdu ?_ _|refine gdt_pos (by first|assumption|omega) ?_|refine gdt_neg (by first|assumption|omega) ?_|refine gdt_split (fun hg => ?_) (fun hg => ?_)|refine gdf_pos (by first|assumption|omega) ?_|refine gdf_neg (by first|assumption|omega) ?_|refine gdf_split (fun hg => ?_) (fun hg => ?_)|refine gdtn_pos (by first|assumption|omega) ?_|refine gdtn_neg (by first|assumption|omega) ?_|refine gdtn_split (fun hg => ?_) (fun hg => ?_)|refine gdfn_pos (by first|assumption|omega) ?_|refine gdfn_neg (by first|assumption|omega) ?_|refine gdfn_split (fun hg => ?_) (fun hg => ?_)|refine gdtbn_pos (by assumption) ?_|refine gdtbn_neg (by assumption) ?_|refine gdfbn_pos (by assumption) ?_|refine gdfbn_neg (by assumption) ?_|refine gdtb_pos (by assumption) ?_|refine gdtb_neg (by assumption) ?_|refine gdtb_split (fun hg => ?_) (fun hg => ?_)|refine gdfb_pos (by assumption) ?_|refine gdfb_neg (by assumption) ?_|refine gdfb_split (fun hg => ?_) (fun hg => ?_)|refine pickT ?_|refine pickF ?_|refine pick_pos (by first|assumption|omega) ?_|refine pick_neg (by first|assumption|omega) ?_|refine pickn_pos (by first|assumption|omega) ?_|refine pickn_neg (by first|assumption|omega) ?_|refine pickbn_pos (by assumption) ?_|refine pickbn_neg (by assumption) ?_|refine pickb_pos (by assumption) ?_|refine pickb_neg (by assumption) ?_|refine condT ?_|refine condF ?_|refine cond_pos (by first|assumption|omega) ?_|refine cond_neg (by first|assumption|omega) ?_|refine condM_dec (fun hg => ?_) (fun hg => ?_)|refine condn_pos (by first|assumption|omega) ?_|refine condn_neg (by first|assumption|omega) ?_|refine condM_ndec (fun hg => ?_) (fun hg => ?_)|refine condbn_pos (by assumption) ?_|refine condbn_neg (by assumption) ?_|refine condbn_split (fun hg => ?_) (fun hg => ?_)|refine condb_pos (by assumption) ?_|refine condb_neg (by assumption) ?_|refine condM_b (fun hg => ?_) (fun hg => ?_))
  | ((with_reducible refine oM_gen (fun Kv hK => ?_)); simp [go_sem, hr]; (try simp (disch := omega) only [wrapI64, wrapU8, wrapU32, wrapU64]); (first | refine hK _ _ ?_ | refine And.intro (by omega) (hK _ _ ?_)); clear hK; clear Kv)))
  generalize w.alloc o = w0 at *
  have hsm : sm < w.heap.size := m.lt
  refine ⟨fun l w' => ∃ u done, l = [u] ∧ done.Nodup ∧ Ranged secV w' w.heap.size sm (ls.filter (fun y => decide (¬ (y.1 ∈ done ∧ y.1.1 = f)))) (ls.map (·.1)) done ∧ Fr (fun i => i = sm) w w', fun _ w' => (ls.map (·.1)).length + 1 - (w'.iterSeen w.heap.size).size, ⟨_, [], rfl, List.nodup_nil, by
    have e : ls.filter (fun y => decide (¬ (y.1 ∈ ([] : List (Int × Int)) ∧ y.1.1 = f))) = ls := List.filter_eq_self.2 (fun y _ => by simp)
    rw [e]; exact R, f0⟩, ?_⟩
  rintro l u w1 ⟨u1, done, rfl, hnd, R1, f1⟩
  have hlen := nodup_sub_len done _ hnd R1.sub
  have hseen := R1.seen
  rcases run_next (P := Try.prog) (ty := 0) R1 with ⟨hall, hn⟩ | ⟨y, hy, hyd, w2, hn, R2, g2, z2⟩
  · repeat (any_goals (first
    | (with_reducible refine pureM_in ?_)
    | (with_reducible first|refine pureQ_in ?_|refine gdQ_conv (fun _ => ?_)|refine pickQT ?_|refine pickQF ?_|refine pickQ_pos (by first|assumption|omega) ?_|refine pickQ_neg (by first|assumption|omega) ?_|refine pickQn_pos (by first|assumption|omega) ?_|refine pickQn_neg (by first|assumption|omega) ?_) | ((with_reducible refine oQ_one ?_ ?_); exact ⟨_, rfl⟩) | (with_reducible first|refine And.intro (Eq.refl (α := World) _) ?_|refine forall_one ?_|refine oQ_nil ?_) | (with_reducible refine oQ_of ⟨_, rfl⟩ (fun W0 hW0 => by (refine oM_gen (fun Kv hK => ?_)); simp [go_sem]; (first | exact hK _ _ ⟨rfl, rfl⟩ | exact ⟨by omega, hK _ _ ⟨rfl, rfl⟩⟩)) ?_)
    | (with_reducible first|refine gdtT ?_|refine gdtF ?_|refine gdfF ?_|refine gdfT ?_|refine gdu ?_ _|refine gdt_pos (by first|assumption|omega) ?_|refine gdt_neg (by first|assumption|omega) ?_|refine gdt_split (fun hg => ?_) (fun hg => ?_)|refine gdf_pos (by first|assumption|omega) ?_|refine gdf_neg (by first|assumption|omega) ?_|refine gdf_split (fun hg => ?_) (fun hg => ?_)|refine gdtn_pos (by first|assumption|omega) ?_|refine gdtn_neg (by first|assumption|omega) ?_|refine gdtn_split (fun hg => ?_) (fun hg => ?_)|refine gdfn_pos (by first|assumption|omega) ?_|refine gdfn_neg (by first|assumption|omega) ?_|refine gdfn_split (fun hg => ?_) (fun hg => ?_)|refine gdtbn_pos (by assumption) ?_|refine gdtbn_neg (by assumption) ?_|refine gdfbn_pos (by assumption) ?_|refine gdfbn_neg (by assumption) ?_|refine gdtb_pos (by assumption) ?_|refine gdtb_neg (by assumption) ?_|refine gdtb_split (fun hg => ?_) (fun hg => ?_)|refine gdfb_pos (by assumption) ?_|refine gdfb_neg (by assumption) ?_|refine gdfb_split (fun hg => ?_) (fun hg => ?_)|refine pickT ?_|refine pickF ?_|refine pick_pos (by first|assumption|omega) ?_|refine pick_neg (by first|assumption|omega) ?_|refine pickn_pos (by first|assumption|omega) ?_|refine pickn_neg (by first|assumption|omega) ?_|refine pickbn_pos (by assumption) ?_|refine pickbn_neg (by assumption) ?_|refine pickb_pos (by assumption) ?_|refine pickb_neg (by assumption) ?_|refine condT ?_|refine condF ?_|refine cond_pos (by first|assumption|omega) ?_|refine cond_neg (by first|assumption|omega) ?_|refine condM_dec (fun hg => ?_) (fun hg => ?_)|refine condn_pos (by first|assumption|omega) ?_|refine condn_neg (by first|assumption|omega) ?_|refine condM_ndec (fun hg => ?_) (fun hg => ?_)|refine condbn_pos (by assumption) ?_|refine condbn_neg (by assumption) ?_|refine condbn_split (fun hg => ?_) (fun hg => ?_)|refine condb_pos (by assumption) ?_|refine condb_neg (by assumption) ?_|refine condM_b (fun hg => ?_) (fun hg => ?_))
    | ((with_reducible refine oM_gen (fun Kv hK => ?_)); simp [go_sem, hn]; (try simp (disch := omega) only [wrapI64, wrapU8, wrapU32, wrapU64]); (first | refine hK _ _ ?_ | refine And.intro (by omega) (hK _ _ ?_)); clear hK; clear Kv)))
    refine k w1 ?_ f1
    have := R1.map
    have e : ls.filter (fun y => decide (¬ (y.1 ∈ done ∧ y.1.1 = f))) = ls.filter (fun y => decide (y.1.1 ≠ f)) := by
      apply List.filter_congr
      intro y hy
      by_cases hf : y.1.1 = f
      · by_cases hd : y.1 ∈ done
        · simp [hf, hd]
        · have hy' : y ∈ ls.filter (fun y => decide (¬ (y.1 ∈ done ∧ y.1.1 = f))) := List.mem_filter.2 ⟨hy, by simp [hd]⟩
          exact absurd (hall y hy') hd
      · simp [hf]
    rw [e] at this
    exact this
  · have he := run_entry (P := Try.prog) R2 hy
    have f2 : Fr (fun i => i = sm) w w2 := f1.by g2 (fun i hi => by cases hi; exact .inr (Nat.le_refl _))
    simp only [secV] at hn he
    repeat (any_goals (first
    | (with_reducible refine pureM_in ?_)
    | (with_reducible first|refine pureQ_in ?_|refine gdQ_conv (fun _ => ?_)|refine pickQT ?_|refine pickQF ?_|refine pickQ_pos (by first|assumption|omega) ?_|refine pickQ_neg (by first|assumption|omega) ?_|refine pickQn_pos (by first|assumption|omega) ?_|refine pickQn_neg (by first|assumption|omega) ?_) | ((with_reducible refine oQ_one ?_ ?_); exact ⟨_, rfl⟩) | (with_reducible first|refine And.intro (Eq.refl (α := World) _) ?_|refine forall_one ?_|refine oQ_nil ?_) | (with_reducible refine oQ_of ⟨_, rfl⟩ (fun W0 hW0 => by (refine oM_gen (fun Kv hK => ?_)); simp [go_sem]; (first | exact hK _ _ ⟨rfl, rfl⟩ | exact ⟨by omega, hK _ _ ⟨rfl, rfl⟩⟩)) ?_)
    | (with_reducible first|refine gdtT ?_|refine gdtF ?_|refine gdfF ?_|refine gdfT ?_|refine gdu ?_ _|refine gdt_pos (by first|assumption|omega) ?_|refine gdt_neg (by first|assumption|omega) ?_|refine gdt_split (fun hg => ?_) (fun hg => ?_)|refine gdf_pos (by first|assumption|omega) ?_|refine gdf_neg (by first|assumption|omega) ?_|refine gdf_split (fun hg => ?_) (fun hg => ?_)|refine gdtn_pos (by first|assumption|omega) ?_|refine gdtn_neg (by first|assumption|omega) ?_|refine gdtn_split (fun hg => ?_) (fun hg => ?_)|refine gdfn_pos (by first|assumption|omega) ?_|refine gdfn_neg (by first|assumption|omega) ?_|refine gdfn_split (fun hg => ?_) (fun hg => ?_)|refine gdtbn_pos (by assumption) ?_|refine gdtbn_neg (by assumption) ?_|refine gdfbn_pos (by assumption) ?_|refine gdfbn_neg (by assumption) ?_|refine gdtb_pos (by assumption) ?_|refine gdtb_neg (by assumption) ?_|refine gdtb_split (fun hg => ?_) (fun hg => ?_)|refine gdfb_pos (by assumption) ?_|refine gdfb_neg (by assumption) ?_|refine gdfb_split (fun hg => ?_) (fun hg => ?_)|refine pickT ?_|refine pickF ?_|refine pick_pos (by first|assumption|omega) ?_|refine pick_neg (by first|assumption|omega) ?_|refine pickn_pos (by first|assumption|omega) ?_|refine pickn_neg (by first|assumption|omega) ?_|refine pickbn_pos (by assumption) ?_|refine pickbn_neg (by assumption) ?_|refine pickb_pos (by assumption) ?_|refine pickb_neg (by assumption) ?_|refine condT ?_|refine condF ?_|refine cond_pos (by first|assumption|omega) ?_|refine cond_neg (by first|assumption|omega) ?_|refine condM_dec (fun hg => ?_) (fun hg => ?_)|refine condn_pos (by first|assumption|omega) ?_|refine condn_neg (by first|assumption|omega) ?_|refine condM_ndec (fun hg => ?_) (fun hg => ?_)|refine condbn_pos (by assumption) ?_|refine condbn_neg (by assumption) ?_|refine condbn_split (fun hg => ?_) (fun hg => ?_)|refine condb_pos (by assumption) ?_|refine condb_neg (by assumption) ?_|refine condM_b (fun hg => ?_) (fun hg => ?_))
    | ((with_reducible refine oM_gen (fun Kv hK => ?_)); simp [go_sem, hn, he]; (try simp (disch := omega) only [wrapI64, wrapU8, wrapU32, wrapU64]); (first | refine hK _ _ ?_ | refine And.intro (by omega) (hK _ _ ?_)); clear hK; clear Kv)))
    have pf : Fr (fun _ => False) w2 (w2.alloc (.cells #[.int .i64 y.1.1, .int .i64 y.1.2] 69 (0, 0))) := (Fr.refl _ _).alloc _
    have p0 := heap_alloc_new w2 (.cells #[.int .i64 y.1.1, .int .i64 y.1.2] 69 (0, 0))
    have pz := alloc_size w2 (.cells #[.int .i64 y.1.1, .int .i64 y.1.2] 69 (0, 0))
    generalize w2.alloc (.cells #[.int .i64 y.1.1, .int .i64 y.1.2] 69 (0, 0)) = w3 at *
    have hxl := (Array.getElem?_eq_some_iff.1 hx).1
    have hxs : x ≠ sm := fun e => by
      obtain ⟨es, c, hm⟩ := MapIs.isMap m
      rw [e, hm] at hx; cases hx
    have hx2 := (f2.block x hxl hxs).trans hx
    have hx3 := (pf.block x (Array.getElem?_eq_some_iff.1 hx2).1 (fun h => h)).trans hx2
    refine oM_callv2 isBody58 (test2_ok (f := f) y.1 y.2 hx3 (fun w4 f4 => ?_))
    have f24 := pf.trans f4 (fun _ h => h.elim)
    have R4 := R2.of_blocks (f24.block sm R2.lt.1 (fun h => h)) (f24.block w.heap.size R2.lt.2.1 (fun h => h))
    have p4 := (f4.block w2.heap.size (by omega) (fun h => h)).trans p0
    have p40 := cell_of_block p4 0
    have p41 := cell_of_block p4 1
    simp at p40 p41
    have fr4 : Fr (fun i => i = sm) w w4 := f2.trans f24 (fun _ h => h.elim)
    have hmem : y.1 ∈ (ls.filter (fun y => decide (¬ (y.1 ∈ done ∧ y.1.1 = f)))).map (·.1) := List.mem_map_of_mem hy
    have hlen4 := nodup_sub_len (y.1 :: done) _ (List.nodup_cons.2 ⟨hyd, hnd⟩) R4.sub
    simp only [List.length_cons] at hlen4
    obtain ⟨w5, hd, R5, g5, z5⟩ := run_deleteR (P := Try.prog) (t := 51) (et := 4) (ty := 0) keyS (by kernel_rfl) R4 y.1 hmem
    simp only [secV] at hd
    repeat (any_goals (first
    | (with_reducible refine pureM_in ?_)
    | (with_reducible first|refine pureQ_in ?_|refine gdQ_conv (fun _ => ?_)|refine pickQT ?_|refine pickQF ?_|refine pickQ_pos (by first|assumption|omega) ?_|refine pickQ_neg (by first|assumption|omega) ?_|refine pickQn_pos (by first|assumption|omega) ?_|refine pickQn_neg (by first|assumption|omega) ?_) | ((with_reducible refine oQ_one ?_ ?_); exact ⟨_, rfl⟩) | (with_reducible first|refine And.intro (Eq.refl (α := World) _) ?_|refine forall_one ?_|refine oQ_nil ?_) | (with_reducible refine oQ_of ⟨_, rfl⟩ (fun W0 hW0 => by (refine oM_gen (fun Kv hK => ?_)); simp [go_sem]; (first | exact hK _ _ ⟨rfl, rfl⟩ | exact ⟨by omega, hK _ _ ⟨rfl, rfl⟩⟩)) ?_)
    | (with_reducible first|refine gdtT ?_|refine gdtF ?_|refine gdfF ?_|refine gdfT ?_|refine gdu ?_ _|refine gdt_pos (by first|assumption|omega) ?_|refine gdt_neg (by first|assumption|omega) ?_|refine gdt_split (fun hg => ?_) (fun hg => ?_)|refine gdf_pos (by first|assumption|omega) ?_|refine gdf_neg (by first|assumption|omega) ?_|refine gdf_split (fun hg => ?_) (fun hg => ?_)|refine gdtn_pos (by first|assumption|omega) ?_|refine gdtn_neg (by first|assumption|omega) ?_|refine gdtn_split (fun hg => ?_) (fun hg => ?_)|refine gdfn_pos (by first|assumption|omega) ?_|refine gdfn_neg (by first|assumption|omega) ?_|refine gdfn_split (fun hg => ?_) (fun hg => ?_)|refine gdtbn_pos (by assumption) ?_|refine gdtbn_neg (by assumption) ?_|refine gdfbn_pos (by assumption) ?_|refine gdfbn_neg (by assumption) ?_|refine gdtb_pos (by assumption) ?_|refine gdtb_neg (by assumption) ?_|refine gdtb_split (fun hg => ?_) (fun hg => ?_)|refine gdfb_pos (by assumption) ?_|refine gdfb_neg (by assumption) ?_|refine gdfb_split (fun hg => ?_) (fun hg => ?_)|refine pickT ?_|refine pickF ?_|refine pick_pos (by first|assumption|omega) ?_|refine pick_neg (by first|assumption|omega) ?_|refine pickn_pos (by first|assumption|omega) ?_|refine pickn_neg (by first|assumption|omega) ?_|refine pickbn_pos (by assumption) ?_|refine pickbn_neg (by assumption) ?_|refine pickb_pos (by assumption) ?_|refine pickb_neg (by assumption) ?_|refine condT ?_|refine condF ?_|refine cond_pos (by first|assumption|omega) ?_|refine cond_neg (by first|assumption|omega) ?_|refine condM_dec (fun hg => ?_) (fun hg => ?_)|refine condn_pos (by first|assumption|omega) ?_|refine condn_neg (by first|assumption|omega) ?_|refine condM_ndec (fun hg => ?_) (fun hg => ?_)|refine condbn_pos (by assumption) ?_|refine condbn_neg (by assumption) ?_|refine condbn_split (fun hg => ?_) (fun hg => ?_)|refine condb_pos (by assumption) ?_|refine condb_neg (by assumption) ?_|refine condM_b (fun hg => ?_) (fun hg => ?_))
    | ((with_reducible refine oM_gen (fun Kv hK => ?_)); simp [go_sem, p40, p41, hd]; (try simp (disch := omega) only [wrapI64, wrapU8, wrapU32, wrapU64]); (first | refine hK _ _ ?_ | refine And.intro (by omega) (hK _ _ ?_)); clear hK; clear Kv)))
    · have hf : y.1.1 = f := by assumption
      refine ⟨⟨_, y.1 :: done, rfl, List.nodup_cons.2 ⟨hyd, hnd⟩, ?_, fr4.by g5 (fun i hi => by cases hi; exact .inl rfl)⟩, ?_⟩
      · have e : delA (ls.filter (fun y => decide (¬ (y.1 ∈ done ∧ y.1.1 = f)))) y.1 = ls.filter (fun z => decide (¬ (z.1 ∈ y.1 :: done ∧ z.1.1 = f))) := by
          unfold delA
          rw [List.filter_filter]
          apply List.filter_congr
          intro z _
          by_cases hz : z.1 = y.1
          · simp [hz, hf]
          · simp [hz]
        rw [← e]; exact R5
      · have := R5.seen
        simp only [List.length_cons] at this
        show _ - _ < _ - _
        omega
    · have hf : ¬ y.1.1 = f := by assumption
      refine ⟨⟨_, y.1 :: done, rfl, List.nodup_cons.2 ⟨hyd, hnd⟩, ?_, fr4⟩, ?_⟩
      · have e : ls.filter (fun y => decide (¬ (y.1 ∈ done ∧ y.1.1 = f))) = ls.filter (fun z => decide (¬ (z.1 ∈ y.1 :: done ∧ z.1.1 = f))) := by
          apply List.filter_congr
          intro z _
          by_cases hz : z.1 = y.1
          · simp [hz, hf]
          · simp [hz]
        rw [← e]; exact R4
      · have := R4.seen
        simp only [List.length_cons] at this
        show _ - _ < _ - _
        omega
end
end Go.Proofs
