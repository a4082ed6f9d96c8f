/- Ref6: a part of the proof of the seat's statements: lemmas about the given translation and plain laws. No condition of its own. -/
--Q
import Derived.Test.YtilcjegkodkpiaaDoorRef5
import Derived.Test.YtilcjegkodkpiaaDoorOpenKit
set_option linter.all false
namespace Go.Proofs
open Go Go.Sh Go.RowKit Go.Lib LexSpec Go.ChangeShapes Go.WideShapes Go.ChangeAt Go.Deep
set_option linter.unusedSimpArgs false
/-- a token as it may come in -/
structure GTok where
  kind : Int
  text : List UInt8
  n : Int
  pos : Int
def GRow (w : World) (v : Value) (ts : List GTok) : Prop := ∃ a c, v = .slice a ts.length c ∧ (ts = [] ∨ ∃ b o, a = some ⟨b, o, none⟩ ∧ b < w.heap.size ∧
  ∀ j (hj : j < ts.length), w.cell? ⟨b, o + 4 * j, none⟩ = some (.int .i64 ts[j].kind) ∧ w.cell? ⟨b, o + 4 * j + 1, none⟩ = some (.string ⟨ts[j].text.toArray⟩) ∧ w.cell? ⟨b, o + 4 * j + 2, none⟩ = some (.int .i64 ts[j].n) ∧ w.cell? ⟨b, o + 4 * j + 3, none⟩ = some (.int .i64 ts[j].pos))
theorem GRow.below {w w' : World} {v : Value} {ts : List GTok} (h : GRow w v ts) (hb : Below w.heap.size w w') : GRow w' v ts := by
  obtain ⟨a, c, rfl, h⟩ := h
  refine ⟨a, c, rfl, ?_⟩
  rcases h with h | ⟨b, o, rfl, hlt, h⟩
  · exact .inl h
  · refine .inr ⟨b, o, rfl, Nat.lt_of_lt_of_le hlt hb.size, fun j hj => ?_⟩
    obtain ⟨h0, h1, h2, h3⟩ := h j hj
    exact ⟨by rw [hb.cell hlt]; exact h0, by rw [hb.cell hlt]; exact h1, by rw [hb.cell hlt]; exact h2, by rw [hb.cell hlt]; exact h3⟩
def gpiece (t : GTok) : List UInt8 := if t.kind = 2 then LexSpec.escaped t.text else t.text
def gprint (l : List GTok) : List UInt8 := LexSpec.join (l.map gpiece)
theorem cells32 : Tryd.prog.cellsOf 32 = 4 := by kernel_rfl
theorem open_toks {H : Type} {enc : TypeId × Value → H} {w : World} {sp : Nat → Bool} {hd : Bool} {b0 : Nat} {v : Value} {d : DataW H} {ps : List MemPlace} (hval : Value.okWide Tryd.prog w .any b0 23 v) (h : DataW.Trod enc Tryd.prog w 0 sp hd 23 v d ps) :
    ∃ ts, GRow w v ts ∧ ts.length ≤ maxLen := by
  obtain ⟨a, len, cap, rfl, hl, hm, hel⟩ := open_elems Tryd.underlying23 (by rw [cells32]; decide) hval h
  have key : ∀ i, i < len → ∃ t : GTok, ∀ b o, a = some ⟨b, o, none⟩ → w.cell? ⟨b, o + 4 * i, none⟩ = some (.int .i64 t.kind) ∧ w.cell? ⟨b, o + 4 * i + 1, none⟩ = some (.string ⟨t.text.toArray⟩) ∧ w.cell? ⟨b, o + 4 * i + 2, none⟩ = some (.int .i64 t.n) ∧ w.cell? ⟨b, o + 4 * i + 3, none⟩ = some (.int .i64 t.pos) := by
    intro i hi
    obtain ⟨b, o, rfl, hb, hes⟩ := hel (by omega)
    obtain ⟨cs, D, n, hcl, hcells, ht⟩ := hes i hi
    obtain ⟨hcl', hf⟩ := open_fields Tryd.underlying32 (by kernel_rfl) (by kernel_rfl) ht
    rw [cells32] at hcells
    obtain ⟨v0, y0, m0, c0, f0⟩ := hf 0 _ rfl
    obtain ⟨v1, y1, m1, c1, f1⟩ := hf 1 _ rfl
    obtain ⟨v2, y2, m2, c2, f2⟩ := hf 2 _ rfl
    obtain ⟨v3, y3, m3, c3, f3⟩ := hf 3 _ rfl
    obtain ⟨k0, e0, _, _⟩ := DataW.trod_int Tryd.underlying3 f0
    obtain ⟨s1, e1, _, _⟩ := DataW.trod_string Tryd.underlying9 f1
    obtain ⟨k2, e2, _, _⟩ := DataW.trod_int Tryd.underlying3 f2
    obtain ⟨k3, e3, _, _⟩ := DataW.trod_int Tryd.underlying3 f3
    simp only [List.cons.injEq, and_true] at e0 e1 e2 e3
    refine ⟨⟨k0, s1.data.toList, k2, k3⟩, fun b' o' hbo => ?_⟩
    simp only [Option.some.injEq, Addr.mk.injEq, and_true] at hbo
    obtain ⟨rfl, rfl⟩ := hbo
    have g0 := hcells 0 (by decide)
    have g1 := hcells 1 (by decide)
    have g2 := hcells 2 (by decide)
    have g3 := hcells 3 (by decide)
    rw [c0, e0] at g0
    rw [c1, e1] at g1
    rw [c2, e2] at g2
    rw [c3, e3] at g3
    rw [Nat.mul_comm i 4] at g0 g1 g2 g3
    exact ⟨g0, g1, g2, g3⟩
  have build : ∀ n, n ≤ len → ∃ ts : List GTok, ts.length = n ∧ ∀ b o, a = some ⟨b, o, none⟩ → ∀ j (hj : j < ts.length), w.cell? ⟨b, o + 4 * j, none⟩ = some (.int .i64 ts[j].kind) ∧ w.cell? ⟨b, o + 4 * j + 1, none⟩ = some (.string ⟨ts[j].text.toArray⟩) ∧ w.cell? ⟨b, o + 4 * j + 2, none⟩ = some (.int .i64 ts[j].n) ∧ w.cell? ⟨b, o + 4 * j + 3, none⟩ = some (.int .i64 ts[j].pos) := by
    intro n
    induction n with
    | zero => exact fun _ => ⟨[], rfl, fun _ _ _ j hj => by simp at hj⟩
    | succ n ih =>
      intro hn
      obtain ⟨ts, hl, hts⟩ := ih (by omega)
      obtain ⟨t, ht⟩ := key n (by omega)
      refine ⟨ts ++ [t], by simp [hl], fun b o hbo j hj => ?_⟩
      by_cases hjn : j < ts.length
      · simp only [List.getElem_append_left hjn]
        exact hts b o hbo j hjn
      · have : j = ts.length := by simp at hj; omega
        subst this
        have := ht b o hbo
        rw [← hl] at this
        simpa using this
  obtain ⟨ts, hl', hts⟩ := build len (Nat.le_refl _)
  refine ⟨ts, ⟨a, cap, by rw [hl'], ?_⟩, by omega⟩
  by_cases h0 : 0 < len
  · obtain ⟨b, o, rfl, hb, _⟩ := hel h0
    exact .inr ⟨b, o, rfl, hb, hts b o rfl⟩
  · exact .inl (List.eq_nil_of_length_eq_zero (by omega))
set_option maxHeartbeats 1600000 in
theorem gprint_ok (ts : List GTok) (v : Value) {K : Value → World → Prop} {w : World} (hrow : GRow w v ts) (hn : ts.length < 2^20) (ht : ∀ t ∈ ts, t.text.length < 2^20) (h : ∀ w', Below w.heap.size w w' → K (.string ⟨(gprint ts).toArray⟩) w') : callM Tryd.prog 11 #[v] K w := by
  apply sh_11_ok
  unfold sh_11
  obtain ⟨ad, c, rfl, hrow⟩ := hrow
  repeat (any_goals (first
  | (with_reducible refine pureM_in ?_)
  | (with_reducible refine pureQ_in ?_) | (with_reducible refine gdQ_conv (fun _ => ?_)) | (with_reducible refine pickQT ?_) | (with_reducible refine pickQF ?_) | (with_reducible refine pickQ_pos (by first | assumption | omega) ?_) | (with_reducible refine pickQ_neg (by first | assumption | omega) ?_) | (with_reducible refine pickQn_pos (by first | assumption | omega) ?_) | (with_reducible refine pickQn_neg (by first | assumption | omega) ?_) | ((with_reducible refine oQ_one ?_ ?_); exact ⟨_, rfl⟩) | (with_reducible refine And.intro (Eq.refl (α := World) _) ?_) | (with_reducible refine forall_one ?_)
  | (with_reducible refine gdtT ?_) | (with_reducible refine gdtF ?_) | (with_reducible refine gdfF ?_) | (with_reducible refine gdfT ?_) | (with_reducible refine gdu ?_ _)
  | (with_reducible refine gdt_pos (by first | assumption | omega) ?_) | (with_reducible refine gdt_neg (by first | assumption | omega) ?_) | (with_reducible refine gdt_split (fun hg => ?_) (fun hg => ?_))
  | (with_reducible refine gdf_pos (by first | assumption | omega) ?_) | (with_reducible refine gdf_neg (by first | assumption | omega) ?_) | (with_reducible refine gdf_split (fun hg => ?_) (fun hg => ?_))
  | (with_reducible refine gdtn_pos (by first | assumption | omega) ?_) | (with_reducible refine gdtn_neg (by first | assumption | omega) ?_) | (with_reducible refine gdtn_split (fun hg => ?_) (fun hg => ?_))
  | (with_reducible refine gdfn_pos (by first | assumption | omega) ?_) | (with_reducible refine gdfn_neg (by first | assumption | omega) ?_) | (with_reducible refine gdfn_split (fun hg => ?_) (fun hg => ?_))
  | (with_reducible refine gdtbn_pos (by assumption) ?_) | (with_reducible refine gdtbn_neg (by assumption) ?_) | (with_reducible refine gdfbn_pos (by assumption) ?_) | (with_reducible refine gdfbn_neg (by assumption) ?_)
  | (with_reducible refine gdtb_pos (by assumption) ?_) | (with_reducible refine gdtb_neg (by assumption) ?_) | (with_reducible refine gdtb_split (fun hg => ?_) (fun hg => ?_))
  | (with_reducible refine gdfb_pos (by assumption) ?_) | (with_reducible refine gdfb_neg (by assumption) ?_) | (with_reducible refine gdfb_split (fun hg => ?_) (fun hg => ?_))
  | (with_reducible refine pickT ?_) | (with_reducible refine pickF ?_)
  | (with_reducible refine pick_pos (by first | assumption | omega) ?_) | (with_reducible refine pick_neg (by first | assumption | omega) ?_)
  | (with_reducible refine pickn_pos (by first | assumption | omega) ?_) | (with_reducible refine pickn_neg (by first | assumption | omega) ?_)
  | (with_reducible refine pickbn_pos (by assumption) ?_) | (with_reducible refine pickbn_neg (by assumption) ?_)
  | (with_reducible refine pickb_pos (by assumption) ?_) | (with_reducible refine pickb_neg (by assumption) ?_)
  | (with_reducible refine condT ?_) | (with_reducible refine condF ?_)
  | (with_reducible refine cond_pos (by first | assumption | omega) ?_) | (with_reducible refine cond_neg (by first | assumption | omega) ?_) | (with_reducible refine condM_dec (fun hg => ?_) (fun hg => ?_))
  | (with_reducible refine condn_pos (by first | assumption | omega) ?_) | (with_reducible refine condn_neg (by first | assumption | omega) ?_) | (with_reducible refine condM_ndec (fun hg => ?_) (fun hg => ?_))
  | (with_reducible refine condbn_pos (by assumption) ?_) | (with_reducible refine condbn_neg (by assumption) ?_) | (with_reducible refine condbn_split (fun hg => ?_) (fun hg => ?_))
  | (with_reducible refine condb_pos (by assumption) ?_) | (with_reducible refine condb_neg (by assumption) ?_) | (with_reducible refine condM_b (fun hg => ?_) (fun hg => ?_))
  | ((with_reducible refine oM_gen (fun Kv hK => ?_)); simp [go_sem]; (try simp (disch := omega) only [wrapI64, wrapU8, wrapU32, wrapU64]); (first | refine hK _ _ ?_ | refine And.intro (by omega) (hK _ _ ?_)); clear hK; clear Kv)))
  refine ⟨fun l w' => ∃ (v : Value) (k : Nat), l = [v, .int .i64 k] ∧ k ≤ ts.length ∧ Below w.heap.size w w' ∧ w'.ownsRow w.heap.size 9 1 v k (((ts.take k).map gpiece).map strC), fun l _ => ts.length - (match l with | [_, .int _ n] => n.toNat | _ => 0), ⟨_, 0, rfl, by omega, Below.refl _ _, World.ownsRow_nil _ _ _ _⟩, ?_⟩
  rintro _ _ w1 ⟨v, k, rfl, hk, hb1, hown⟩
  have hz1 := hb1.size
  simp only [List.getD_cons_zero, List.getD_cons_succ]
  by_cases hlt : k < ts.length
  · rcases hrow with rfl | ⟨b, o, rfl, hbw, hcells⟩
    · simp at hlt
    · obtain ⟨h0, h1, h2, h3⟩ := hcells k hlt
      rw [← hb1.cell hbw] at h0 h1 h2 h3
      have hix := idx23 (b := b) (o := o) (c := c) hlt w1
      have hld := tokAt h0 h1 h2 h3
      repeat (any_goals (first
      | (with_reducible refine pureM_in ?_)
      | (with_reducible refine pureQ_in ?_) | (with_reducible refine gdQ_conv (fun _ => ?_)) | (with_reducible refine pickQT ?_) | (with_reducible refine pickQF ?_) | (with_reducible refine pickQ_pos (by first | assumption | omega) ?_) | (with_reducible refine pickQ_neg (by first | assumption | omega) ?_) | (with_reducible refine pickQn_pos (by first | assumption | omega) ?_) | (with_reducible refine pickQn_neg (by first | assumption | omega) ?_) | ((with_reducible refine oQ_one ?_ ?_); exact ⟨_, rfl⟩) | (with_reducible refine And.intro (Eq.refl (α := World) _) ?_) | (with_reducible refine forall_one ?_)
      | (with_reducible refine gdtT ?_) | (with_reducible refine gdtF ?_) | (with_reducible refine gdfF ?_) | (with_reducible refine gdfT ?_) | (with_reducible refine gdu ?_ _)
      | (with_reducible refine gdt_pos (by first | assumption | omega) ?_) | (with_reducible refine gdt_neg (by first | assumption | omega) ?_) | (with_reducible refine gdt_split (fun hg => ?_) (fun hg => ?_))
      | (with_reducible refine gdf_pos (by first | assumption | omega) ?_) | (with_reducible refine gdf_neg (by first | assumption | omega) ?_) | (with_reducible refine gdf_split (fun hg => ?_) (fun hg => ?_))
      | (with_reducible refine gdtn_pos (by first | assumption | omega) ?_) | (with_reducible refine gdtn_neg (by first | assumption | omega) ?_) | (with_reducible refine gdtn_split (fun hg => ?_) (fun hg => ?_))
      | (with_reducible refine gdfn_pos (by first | assumption | omega) ?_) | (with_reducible refine gdfn_neg (by first | assumption | omega) ?_) | (with_reducible refine gdfn_split (fun hg => ?_) (fun hg => ?_))
      | (with_reducible refine gdtbn_pos (by assumption) ?_) | (with_reducible refine gdtbn_neg (by assumption) ?_) | (with_reducible refine gdfbn_pos (by assumption) ?_) | (with_reducible refine gdfbn_neg (by assumption) ?_)
      | (with_reducible refine gdtb_pos (by assumption) ?_) | (with_reducible refine gdtb_neg (by assumption) ?_) | (with_reducible refine gdtb_split (fun hg => ?_) (fun hg => ?_))
      | (with_reducible refine gdfb_pos (by assumption) ?_) | (with_reducible refine gdfb_neg (by assumption) ?_) | (with_reducible refine gdfb_split (fun hg => ?_) (fun hg => ?_))
      | (with_reducible refine pickT ?_) | (with_reducible refine pickF ?_)
      | (with_reducible refine pick_pos (by first | assumption | omega) ?_) | (with_reducible refine pick_neg (by first | assumption | omega) ?_)
      | (with_reducible refine pickn_pos (by first | assumption | omega) ?_) | (with_reducible refine pickn_neg (by first | assumption | omega) ?_)
      | (with_reducible refine pickbn_pos (by assumption) ?_) | (with_reducible refine pickbn_neg (by assumption) ?_)
      | (with_reducible refine pickb_pos (by assumption) ?_) | (with_reducible refine pickb_neg (by assumption) ?_)
      | (with_reducible refine condT ?_) | (with_reducible refine condF ?_)
      | (with_reducible refine cond_pos (by first | assumption | omega) ?_) | (with_reducible refine cond_neg (by first | assumption | omega) ?_) | (with_reducible refine condM_dec (fun hg => ?_) (fun hg => ?_))
      | (with_reducible refine condn_pos (by first | assumption | omega) ?_) | (with_reducible refine condn_neg (by first | assumption | omega) ?_) | (with_reducible refine condM_ndec (fun hg => ?_) (fun hg => ?_))
      | (with_reducible refine condbn_pos (by assumption) ?_) | (with_reducible refine condbn_neg (by assumption) ?_) | (with_reducible refine condbn_split (fun hg => ?_) (fun hg => ?_))
      | (with_reducible refine condb_pos (by assumption) ?_) | (with_reducible refine condb_neg (by assumption) ?_) | (with_reducible refine condM_b (fun hg => ?_) (fun hg => ?_))
      | ((with_reducible refine oM_gen (fun Kv hK => ?_)); simp [go_sem]; (try simp (disch := omega) only [wrapI64, wrapU8, wrapU32, wrapU64]); (first | refine hK _ _ ?_ | refine And.intro (by omega) (hK _ _ ?_)); clear hK; clear Kv)))
      rw [oM_indexAddr, hix, rM_ok, oM_load, hld, rM_ok]
      have hal : (w1.alloc (.cells #[.int .i64 0, .string ⟨#[]⟩, .int .i64 0, .int .i64 0] 32)).heap[w1.heap.size]? = some (.cells #[.int .i64 0, .string ⟨#[]⟩, .int .i64 0, .int .i64 0] 32 (0, 0)) := heap_alloc_last _ _
      have hst := store32 hal rfl ts[k].kind ts[k].n ts[k].pos ⟨ts[k].text.toArray⟩
      repeat (any_goals (first
      | (with_reducible refine pureM_in ?_)
      | (with_reducible refine pureQ_in ?_) | (with_reducible refine gdQ_conv (fun _ => ?_)) | (with_reducible refine pickQT ?_) | (with_reducible refine pickQF ?_) | (with_reducible refine pickQ_pos (by first | assumption | omega) ?_) | (with_reducible refine pickQ_neg (by first | assumption | omega) ?_) | (with_reducible refine pickQn_pos (by first | assumption | omega) ?_) | (with_reducible refine pickQn_neg (by first | assumption | omega) ?_) | ((with_reducible refine oQ_one ?_ ?_); exact ⟨_, rfl⟩) | (with_reducible refine And.intro (Eq.refl (α := World) _) ?_) | (with_reducible refine forall_one ?_)
      | (with_reducible refine gdtT ?_) | (with_reducible refine gdtF ?_) | (with_reducible refine gdfF ?_) | (with_reducible refine gdfT ?_) | (with_reducible refine gdu ?_ _)
      | (with_reducible refine gdt_pos (by first | assumption | omega) ?_) | (with_reducible refine gdt_neg (by first | assumption | omega) ?_) | (with_reducible refine gdt_split (fun hg => ?_) (fun hg => ?_))
      | (with_reducible refine gdf_pos (by first | assumption | omega) ?_) | (with_reducible refine gdf_neg (by first | assumption | omega) ?_) | (with_reducible refine gdf_split (fun hg => ?_) (fun hg => ?_))
      | (with_reducible refine gdtn_pos (by first | assumption | omega) ?_) | (with_reducible refine gdtn_neg (by first | assumption | omega) ?_) | (with_reducible refine gdtn_split (fun hg => ?_) (fun hg => ?_))
      | (with_reducible refine gdfn_pos (by first | assumption | omega) ?_) | (with_reducible refine gdfn_neg (by first | assumption | omega) ?_) | (with_reducible refine gdfn_split (fun hg => ?_) (fun hg => ?_))
      | (with_reducible refine gdtbn_pos (by assumption) ?_) | (with_reducible refine gdtbn_neg (by assumption) ?_) | (with_reducible refine gdfbn_pos (by assumption) ?_) | (with_reducible refine gdfbn_neg (by assumption) ?_)
      | (with_reducible refine gdtb_pos (by assumption) ?_) | (with_reducible refine gdtb_neg (by assumption) ?_) | (with_reducible refine gdtb_split (fun hg => ?_) (fun hg => ?_))
      | (with_reducible refine gdfb_pos (by assumption) ?_) | (with_reducible refine gdfb_neg (by assumption) ?_) | (with_reducible refine gdfb_split (fun hg => ?_) (fun hg => ?_))
      | (with_reducible refine pickT ?_) | (with_reducible refine pickF ?_)
      | (with_reducible refine pick_pos (by first | assumption | omega) ?_) | (with_reducible refine pick_neg (by first | assumption | omega) ?_)
      | (with_reducible refine pickn_pos (by first | assumption | omega) ?_) | (with_reducible refine pickn_neg (by first | assumption | omega) ?_)
      | (with_reducible refine pickbn_pos (by assumption) ?_) | (with_reducible refine pickbn_neg (by assumption) ?_)
      | (with_reducible refine pickb_pos (by assumption) ?_) | (with_reducible refine pickb_neg (by assumption) ?_)
      | (with_reducible refine condT ?_) | (with_reducible refine condF ?_)
      | (with_reducible refine cond_pos (by first | assumption | omega) ?_) | (with_reducible refine cond_neg (by first | assumption | omega) ?_) | (with_reducible refine condM_dec (fun hg => ?_) (fun hg => ?_))
      | (with_reducible refine condn_pos (by first | assumption | omega) ?_) | (with_reducible refine condn_neg (by first | assumption | omega) ?_) | (with_reducible refine condM_ndec (fun hg => ?_) (fun hg => ?_))
      | (with_reducible refine condbn_pos (by assumption) ?_) | (with_reducible refine condbn_neg (by assumption) ?_) | (with_reducible refine condbn_split (fun hg => ?_) (fun hg => ?_))
      | (with_reducible refine condb_pos (by assumption) ?_) | (with_reducible refine condb_neg (by assumption) ?_) | (with_reducible refine condM_b (fun hg => ?_) (fun hg => ?_))
      | ((with_reducible refine oM_gen (fun Kv hK => ?_)); simp [go_sem, hst]; (try simp (disch := omega) only [wrapI64, wrapU8, wrapU32, wrapU64]); (first | refine hK _ _ ?_ | refine And.intro (by omega) (hK _ _ ?_)); clear hK; clear Kv)))
      refine ⟨fun _ w' => Below w.heap.size w w' ∧ w1.heap.size < w'.heap.size ∧ w'.ownsRow w.heap.size 9 1 v k (((ts.take k).map gpiece).map strC) ∧ ∃ x, w'.heap[w1.heap.size]? = some (.cells #[x, strC (gpiece ts[k]), .int .i64 ts[k].n, .int .i64 ts[k].pos] 32 (0, 0)), ?_, ?_⟩
      · repeat (any_goals (first
        | (with_reducible refine pureM_in ?_)
        | (with_reducible refine pureQ_in ?_) | (with_reducible refine gdQ_conv (fun _ => ?_)) | (with_reducible refine pickQT ?_) | (with_reducible refine pickQF ?_) | (with_reducible refine pickQ_pos (by first | assumption | omega) ?_) | (with_reducible refine pickQ_neg (by first | assumption | omega) ?_) | (with_reducible refine pickQn_pos (by first | assumption | omega) ?_) | (with_reducible refine pickQn_neg (by first | assumption | omega) ?_) | ((with_reducible refine oQ_one ?_ ?_); exact ⟨_, rfl⟩) | (with_reducible refine And.intro (Eq.refl (α := World) _) ?_) | (with_reducible refine forall_one ?_)
        | (with_reducible refine gdtT ?_) | (with_reducible refine gdtF ?_) | (with_reducible refine gdfF ?_) | (with_reducible refine gdfT ?_) | (with_reducible refine gdu ?_ _)
        | (with_reducible refine gdt_pos (by first | assumption | omega) ?_) | (with_reducible refine gdt_neg (by first | assumption | omega) ?_) | (with_reducible refine gdt_split (fun hg => ?_) (fun hg => ?_))
        | (with_reducible refine gdf_pos (by first | assumption | omega) ?_) | (with_reducible refine gdf_neg (by first | assumption | omega) ?_) | (with_reducible refine gdf_split (fun hg => ?_) (fun hg => ?_))
        | (with_reducible refine gdtn_pos (by first | assumption | omega) ?_) | (with_reducible refine gdtn_neg (by first | assumption | omega) ?_) | (with_reducible refine gdtn_split (fun hg => ?_) (fun hg => ?_))
        | (with_reducible refine gdfn_pos (by first | assumption | omega) ?_) | (with_reducible refine gdfn_neg (by first | assumption | omega) ?_) | (with_reducible refine gdfn_split (fun hg => ?_) (fun hg => ?_))
        | (with_reducible refine gdtbn_pos (by assumption) ?_) | (with_reducible refine gdtbn_neg (by assumption) ?_) | (with_reducible refine gdfbn_pos (by assumption) ?_) | (with_reducible refine gdfbn_neg (by assumption) ?_)
        | (with_reducible refine gdtb_pos (by assumption) ?_) | (with_reducible refine gdtb_neg (by assumption) ?_) | (with_reducible refine gdtb_split (fun hg => ?_) (fun hg => ?_))
        | (with_reducible refine gdfb_pos (by assumption) ?_) | (with_reducible refine gdfb_neg (by assumption) ?_) | (with_reducible refine gdfb_split (fun hg => ?_) (fun hg => ?_))
        | (with_reducible refine pickT ?_) | (with_reducible refine pickF ?_)
        | (with_reducible refine pick_pos (by first | assumption | omega) ?_) | (with_reducible refine pick_neg (by first | assumption | omega) ?_)
        | (with_reducible refine pickn_pos (by first | assumption | omega) ?_) | (with_reducible refine pickn_neg (by first | assumption | omega) ?_)
        | (with_reducible refine pickbn_pos (by assumption) ?_) | (with_reducible refine pickbn_neg (by assumption) ?_)
        | (with_reducible refine pickb_pos (by assumption) ?_) | (with_reducible refine pickb_neg (by assumption) ?_)
        | (with_reducible refine condT ?_) | (with_reducible refine condF ?_)
        | (with_reducible refine cond_pos (by first | assumption | omega) ?_) | (with_reducible refine cond_neg (by first | assumption | omega) ?_) | (with_reducible refine condM_dec (fun hg => ?_) (fun hg => ?_))
        | (with_reducible refine condn_pos (by first | assumption | omega) ?_) | (with_reducible refine condn_neg (by first | assumption | omega) ?_) | (with_reducible refine condM_ndec (fun hg => ?_) (fun hg => ?_))
        | (with_reducible refine condbn_pos (by assumption) ?_) | (with_reducible refine condbn_neg (by assumption) ?_) | (with_reducible refine condbn_split (fun hg => ?_) (fun hg => ?_))
        | (with_reducible refine condb_pos (by assumption) ?_) | (with_reducible refine condb_neg (by assumption) ?_) | (with_reducible refine condM_b (fun hg => ?_) (fun hg => ?_))
        | ((with_reducible refine oM_gen (fun Kv hK => ?_)); simp [go_sem]; (try simp (disch := omega) only [wrapI64, wrapU8, wrapU32, wrapU64]); (first | refine hK _ _ ?_ | refine And.intro (by omega) (hK _ _ ?_)); clear hK; clear Kv)))
        · have hpc : gpiece ts[k] = escaped ts[k].text := by
            have : ts[k].kind = 2 := by omega
            simp [gpiece, this]
          have hsz : (⟨ts[k].text.toArray⟩ : ByteArray).size = ts[k].text.length := by rw [← size_len]
          have htk := ht ts[k] (List.getElem_mem hlt)
          refine escaped_ok _ (by rw [hsz]; omega) ?_
          intro w3 hb3
          have hz3 := hb3.size
          simp only [World.alloc, Array.size_push] at hz3
          have hf3 : w3.heap[w1.heap.size]? = some (.cells #[.int .i64 ts[k].kind, .string ⟨ts[k].text.toArray⟩, .int .i64 ts[k].n, .int .i64 ts[k].pos] 32 (0, 0)) := by
            rw [hb3.block _ (by simp)]; exact heap_alloc_last _ _
          have hc3 : w3.cell? ⟨w1.heap.size, 1, none⟩ = some (.string ⟨ts[k].text.toArray⟩) := by rw [cell_of_row _ _ _ _ _ _ hf3]; rfl
          have hz3' : w3.frozen? ⟨w1.heap.size, 1, none⟩ = false := by simp [World.frozen?, hf3]
          have hbb : Below w.heap.size w w3 := (hb1.alloc (by omega) _).trans (hb3.mono (by simp; omega))
          have hown3 : w3.ownsRow w.heap.size 9 1 v k (((ts.take k).map gpiece).map strC) := ownsRow_below (hown.alloc _) hb3
          repeat (any_goals (first
          | (with_reducible refine pureM_in ?_)
          | (with_reducible refine pureQ_in ?_) | (with_reducible refine gdQ_conv (fun _ => ?_)) | (with_reducible refine pickQT ?_) | (with_reducible refine pickQF ?_) | (with_reducible refine pickQ_pos (by first | assumption | omega) ?_) | (with_reducible refine pickQ_neg (by first | assumption | omega) ?_) | (with_reducible refine pickQn_pos (by first | assumption | omega) ?_) | (with_reducible refine pickQn_neg (by first | assumption | omega) ?_) | ((with_reducible refine oQ_one ?_ ?_); exact ⟨_, rfl⟩) | (with_reducible refine And.intro (Eq.refl (α := World) _) ?_) | (with_reducible refine forall_one ?_)
          | (with_reducible refine gdtT ?_) | (with_reducible refine gdtF ?_) | (with_reducible refine gdfF ?_) | (with_reducible refine gdfT ?_) | (with_reducible refine gdu ?_ _)
          | (with_reducible refine gdt_pos (by first | assumption | omega) ?_) | (with_reducible refine gdt_neg (by first | assumption | omega) ?_) | (with_reducible refine gdt_split (fun hg => ?_) (fun hg => ?_))
          | (with_reducible refine gdf_pos (by first | assumption | omega) ?_) | (with_reducible refine gdf_neg (by first | assumption | omega) ?_) | (with_reducible refine gdf_split (fun hg => ?_) (fun hg => ?_))
          | (with_reducible refine gdtn_pos (by first | assumption | omega) ?_) | (with_reducible refine gdtn_neg (by first | assumption | omega) ?_) | (with_reducible refine gdtn_split (fun hg => ?_) (fun hg => ?_))
          | (with_reducible refine gdfn_pos (by first | assumption | omega) ?_) | (with_reducible refine gdfn_neg (by first | assumption | omega) ?_) | (with_reducible refine gdfn_split (fun hg => ?_) (fun hg => ?_))
          | (with_reducible refine gdtbn_pos (by assumption) ?_) | (with_reducible refine gdtbn_neg (by assumption) ?_) | (with_reducible refine gdfbn_pos (by assumption) ?_) | (with_reducible refine gdfbn_neg (by assumption) ?_)
          | (with_reducible refine gdtb_pos (by assumption) ?_) | (with_reducible refine gdtb_neg (by assumption) ?_) | (with_reducible refine gdtb_split (fun hg => ?_) (fun hg => ?_))
          | (with_reducible refine gdfb_pos (by assumption) ?_) | (with_reducible refine gdfb_neg (by assumption) ?_) | (with_reducible refine gdfb_split (fun hg => ?_) (fun hg => ?_))
          | (with_reducible refine pickT ?_) | (with_reducible refine pickF ?_)
          | (with_reducible refine pick_pos (by first | assumption | omega) ?_) | (with_reducible refine pick_neg (by first | assumption | omega) ?_)
          | (with_reducible refine pickn_pos (by first | assumption | omega) ?_) | (with_reducible refine pickn_neg (by first | assumption | omega) ?_)
          | (with_reducible refine pickbn_pos (by assumption) ?_) | (with_reducible refine pickbn_neg (by assumption) ?_)
          | (with_reducible refine pickb_pos (by assumption) ?_) | (with_reducible refine pickb_neg (by assumption) ?_)
          | (with_reducible refine condT ?_) | (with_reducible refine condF ?_)
          | (with_reducible refine cond_pos (by first | assumption | omega) ?_) | (with_reducible refine cond_neg (by first | assumption | omega) ?_) | (with_reducible refine condM_dec (fun hg => ?_) (fun hg => ?_))
          | (with_reducible refine condn_pos (by first | assumption | omega) ?_) | (with_reducible refine condn_neg (by first | assumption | omega) ?_) | (with_reducible refine condM_ndec (fun hg => ?_) (fun hg => ?_))
          | (with_reducible refine condbn_pos (by assumption) ?_) | (with_reducible refine condbn_neg (by assumption) ?_) | (with_reducible refine condbn_split (fun hg => ?_) (fun hg => ?_))
          | (with_reducible refine condb_pos (by assumption) ?_) | (with_reducible refine condb_neg (by assumption) ?_) | (with_reducible refine condM_b (fun hg => ?_) (fun hg => ?_))
          | ((with_reducible refine oM_gen (fun Kv hK => ?_)); simp [go_sem, hc3, hz3']; (try simp (disch := omega) only [wrapI64, wrapU8, wrapU32, wrapU64]); (first | refine hK _ _ ?_ | refine And.intro (by omega) (hK _ _ ?_)); clear hK; clear Kv)))
          have hro : (w3.setCell ⟨w1.heap.size, 1, none⟩ (strC (gpiece ts[k]))).heap[w1.heap.size]? = some (.cells #[.int .i64 ts[k].kind, strC (gpiece ts[k]), .int .i64 ts[k].n, .int .i64 ts[k].pos] 32 (0, 0)) := by
            rw [setCell_eq_setRow _ _ _ _ _ _ _ hf3]
            exact setRow_heap _ _ _ _ _ _ hf3
          simp only [strC, hpc] at hro
          refine ⟨hbb.setCell (by simp; omega) _, by simp [World.setCell]; omega, ?_, .int .i64 ts[k].kind, ?_⟩
          · refine ownsRow_set hown3 hf3 (by decide) _
          · rw [strC, hpc]; simpa using hro
        · have hpc : gpiece ts[k] = ts[k].text := by
            have : ¬ ts[k].kind = 2 := by omega
            simp [gpiece, this]
          refine ⟨hb1.alloc (by omega) _, by simp, hown.alloc _, .int .i64 ts[k].kind, ?_⟩
          rw [hpc]
          exact heap_alloc_last _ _
      · rintro _ _ w2 ⟨hb2, hz2, hown2, x, hcell2⟩
        have hc2 : w2.cell? ⟨w1.heap.size, 1, none⟩ = some (strC (gpiece ts[k])) := by rw [cell_of_row _ _ _ _ _ _ hcell2]; rfl
        rw [strC] at hc2
        repeat (any_goals (first
        | (with_reducible refine pureM_in ?_)
        | (with_reducible refine pureQ_in ?_) | (with_reducible refine gdQ_conv (fun _ => ?_)) | (with_reducible refine pickQT ?_) | (with_reducible refine pickQF ?_) | (with_reducible refine pickQ_pos (by first | assumption | omega) ?_) | (with_reducible refine pickQ_neg (by first | assumption | omega) ?_) | (with_reducible refine pickQn_pos (by first | assumption | omega) ?_) | (with_reducible refine pickQn_neg (by first | assumption | omega) ?_) | ((with_reducible refine oQ_one ?_ ?_); exact ⟨_, rfl⟩) | (with_reducible refine And.intro (Eq.refl (α := World) _) ?_) | (with_reducible refine forall_one ?_)
        | (with_reducible refine gdtT ?_) | (with_reducible refine gdtF ?_) | (with_reducible refine gdfF ?_) | (with_reducible refine gdfT ?_) | (with_reducible refine gdu ?_ _)
        | (with_reducible refine gdt_pos (by first | assumption | omega) ?_) | (with_reducible refine gdt_neg (by first | assumption | omega) ?_) | (with_reducible refine gdt_split (fun hg => ?_) (fun hg => ?_))
        | (with_reducible refine gdf_pos (by first | assumption | omega) ?_) | (with_reducible refine gdf_neg (by first | assumption | omega) ?_) | (with_reducible refine gdf_split (fun hg => ?_) (fun hg => ?_))
        | (with_reducible refine gdtn_pos (by first | assumption | omega) ?_) | (with_reducible refine gdtn_neg (by first | assumption | omega) ?_) | (with_reducible refine gdtn_split (fun hg => ?_) (fun hg => ?_))
        | (with_reducible refine gdfn_pos (by first | assumption | omega) ?_) | (with_reducible refine gdfn_neg (by first | assumption | omega) ?_) | (with_reducible refine gdfn_split (fun hg => ?_) (fun hg => ?_))
        | (with_reducible refine gdtbn_pos (by assumption) ?_) | (with_reducible refine gdtbn_neg (by assumption) ?_) | (with_reducible refine gdfbn_pos (by assumption) ?_) | (with_reducible refine gdfbn_neg (by assumption) ?_)
        | (with_reducible refine gdtb_pos (by assumption) ?_) | (with_reducible refine gdtb_neg (by assumption) ?_) | (with_reducible refine gdtb_split (fun hg => ?_) (fun hg => ?_))
        | (with_reducible refine gdfb_pos (by assumption) ?_) | (with_reducible refine gdfb_neg (by assumption) ?_) | (with_reducible refine gdfb_split (fun hg => ?_) (fun hg => ?_))
        | (with_reducible refine pickT ?_) | (with_reducible refine pickF ?_)
        | (with_reducible refine pick_pos (by first | assumption | omega) ?_) | (with_reducible refine pick_neg (by first | assumption | omega) ?_)
        | (with_reducible refine pickn_pos (by first | assumption | omega) ?_) | (with_reducible refine pickn_neg (by first | assumption | omega) ?_)
        | (with_reducible refine pickbn_pos (by assumption) ?_) | (with_reducible refine pickbn_neg (by assumption) ?_)
        | (with_reducible refine pickb_pos (by assumption) ?_) | (with_reducible refine pickb_neg (by assumption) ?_)
        | (with_reducible refine condT ?_) | (with_reducible refine condF ?_)
        | (with_reducible refine cond_pos (by first | assumption | omega) ?_) | (with_reducible refine cond_neg (by first | assumption | omega) ?_) | (with_reducible refine condM_dec (fun hg => ?_) (fun hg => ?_))
        | (with_reducible refine condn_pos (by first | assumption | omega) ?_) | (with_reducible refine condn_neg (by first | assumption | omega) ?_) | (with_reducible refine condM_ndec (fun hg => ?_) (fun hg => ?_))
        | (with_reducible refine condbn_pos (by assumption) ?_) | (with_reducible refine condbn_neg (by assumption) ?_) | (with_reducible refine condbn_split (fun hg => ?_) (fun hg => ?_))
        | (with_reducible refine condb_pos (by assumption) ?_) | (with_reducible refine condb_neg (by assumption) ?_) | (with_reducible refine condM_b (fun hg => ?_) (fun hg => ?_))
        | ((with_reducible refine oM_gen (fun Kv hK => ?_)); simp [go_sem, hc2]; (try simp (disch := omega) only [wrapI64, wrapU8, wrapU32, wrapU64]); (first | refine hK _ _ ?_ | refine And.intro (by omega) (hK _ _ ?_)); clear hK; clear Kv)))
        have hby : (k + 1) * Tryd.t9.bytes ≤ 140737488355328 := by
          have : Tryd.t9.bytes ≤ 64 := by decide
          have := Nat.mul_le_mul_left (k + 1) this
          omega
        refine oM_append_new' (base := w.heap.size) (n := k) (xs := ((ts.take k).map gpiece).map strC) (i := Tryd.t9) (z := .string ⟨#[]⟩) (cs := #[.string ⟨(gpiece ts[k]).toArray⟩]) rfl Tryd.underlying43 (by kernel_rfl) (by kernel_rfl) rfl rfl (by simp) (by simp [Value.oneCell']) hown2 (by omega) (by unfold maxLen; omega) hby ?_
        intro v' w3 ho hgr
        have hb3 : Below w.heap.size w w3 := hb2.trans (below_of_grown hgr (by omega) (fun j hj => ownsRow_base hown j hj))
        repeat (any_goals (first
        | (with_reducible refine pureM_in ?_)
        | (with_reducible refine pureQ_in ?_) | (with_reducible refine gdQ_conv (fun _ => ?_)) | (with_reducible refine pickQT ?_) | (with_reducible refine pickQF ?_) | (with_reducible refine pickQ_pos (by first | assumption | omega) ?_) | (with_reducible refine pickQ_neg (by first | assumption | omega) ?_) | (with_reducible refine pickQn_pos (by first | assumption | omega) ?_) | (with_reducible refine pickQn_neg (by first | assumption | omega) ?_) | ((with_reducible refine oQ_one ?_ ?_); exact ⟨_, rfl⟩) | (with_reducible refine And.intro (Eq.refl (α := World) _) ?_) | (with_reducible refine forall_one ?_)
        | (with_reducible refine gdtT ?_) | (with_reducible refine gdtF ?_) | (with_reducible refine gdfF ?_) | (with_reducible refine gdfT ?_) | (with_reducible refine gdu ?_ _)
        | (with_reducible refine gdt_pos (by first | assumption | omega) ?_) | (with_reducible refine gdt_neg (by first | assumption | omega) ?_) | (with_reducible refine gdt_split (fun hg => ?_) (fun hg => ?_))
        | (with_reducible refine gdf_pos (by first | assumption | omega) ?_) | (with_reducible refine gdf_neg (by first | assumption | omega) ?_) | (with_reducible refine gdf_split (fun hg => ?_) (fun hg => ?_))
        | (with_reducible refine gdtn_pos (by first | assumption | omega) ?_) | (with_reducible refine gdtn_neg (by first | assumption | omega) ?_) | (with_reducible refine gdtn_split (fun hg => ?_) (fun hg => ?_))
        | (with_reducible refine gdfn_pos (by first | assumption | omega) ?_) | (with_reducible refine gdfn_neg (by first | assumption | omega) ?_) | (with_reducible refine gdfn_split (fun hg => ?_) (fun hg => ?_))
        | (with_reducible refine gdtbn_pos (by assumption) ?_) | (with_reducible refine gdtbn_neg (by assumption) ?_) | (with_reducible refine gdfbn_pos (by assumption) ?_) | (with_reducible refine gdfbn_neg (by assumption) ?_)
        | (with_reducible refine gdtb_pos (by assumption) ?_) | (with_reducible refine gdtb_neg (by assumption) ?_) | (with_reducible refine gdtb_split (fun hg => ?_) (fun hg => ?_))
        | (with_reducible refine gdfb_pos (by assumption) ?_) | (with_reducible refine gdfb_neg (by assumption) ?_) | (with_reducible refine gdfb_split (fun hg => ?_) (fun hg => ?_))
        | (with_reducible refine pickT ?_) | (with_reducible refine pickF ?_)
        | (with_reducible refine pick_pos (by first | assumption | omega) ?_) | (with_reducible refine pick_neg (by first | assumption | omega) ?_)
        | (with_reducible refine pickn_pos (by first | assumption | omega) ?_) | (with_reducible refine pickn_neg (by first | assumption | omega) ?_)
        | (with_reducible refine pickbn_pos (by assumption) ?_) | (with_reducible refine pickbn_neg (by assumption) ?_)
        | (with_reducible refine pickb_pos (by assumption) ?_) | (with_reducible refine pickb_neg (by assumption) ?_)
        | (with_reducible refine condT ?_) | (with_reducible refine condF ?_)
        | (with_reducible refine cond_pos (by first | assumption | omega) ?_) | (with_reducible refine cond_neg (by first | assumption | omega) ?_) | (with_reducible refine condM_dec (fun hg => ?_) (fun hg => ?_))
        | (with_reducible refine condn_pos (by first | assumption | omega) ?_) | (with_reducible refine condn_neg (by first | assumption | omega) ?_) | (with_reducible refine condM_ndec (fun hg => ?_) (fun hg => ?_))
        | (with_reducible refine condbn_pos (by assumption) ?_) | (with_reducible refine condbn_neg (by assumption) ?_) | (with_reducible refine condbn_split (fun hg => ?_) (fun hg => ?_))
        | (with_reducible refine condb_pos (by assumption) ?_) | (with_reducible refine condb_neg (by assumption) ?_) | (with_reducible refine condM_b (fun hg => ?_) (fun hg => ?_))
        | ((with_reducible refine oM_gen (fun Kv hK => ?_)); simp [go_sem]; (try simp (disch := omega) only [wrapI64, wrapU8, wrapU32, wrapU64]); (first | refine hK _ _ ?_ | refine And.intro (by omega) (hK _ _ ?_)); clear hK; clear Kv)))
        refine ⟨⟨v', k + 1, rfl, hlt, hb3, ?_⟩, by simp; omega⟩
        have e : ((ts.take (k + 1)).map gpiece).map strC = ((ts.take k).map gpiece).map strC ++ [strC (gpiece ts[k])] := by
          rw [List.take_add_one, List.getElem?_eq_getElem hlt]
          simp only [Option.toList_some, List.map_append, List.map_cons, List.map_nil]
        rw [e]
        exact ho
  · obtain rfl : k = ts.length := by omega
    rw [List.take_length] at hown
    have hlen : (ts.map gpiece).length = ts.length := by simp
    have hpl : ∀ x ∈ ts.map gpiece, x.length ≤ 2^22 := by
      intro x hx
      obtain ⟨t, htm, rfl⟩ := List.mem_map.1 hx
      have h1 := ht t htm
      have h2 := escaped_size t.text
      unfold gpiece
      split <;> omega
    have hjl := join_len _ _ hpl
    rw [hlen] at hjl
    have hjl2 : (LexSpec.join (ts.map gpiece)).length ≤ 140737488355328 := by
      have := Nat.mul_le_mul_left (2^22 + 1) (Nat.le_of_lt hn)
      omega
    rw [← hlen] at hown
    repeat (any_goals (first
    | (with_reducible refine pureM_in ?_)
    | (with_reducible refine pureQ_in ?_) | (with_reducible refine gdQ_conv (fun _ => ?_)) | (with_reducible refine pickQT ?_) | (with_reducible refine pickQF ?_) | (with_reducible refine pickQ_pos (by first | assumption | omega) ?_) | (with_reducible refine pickQ_neg (by first | assumption | omega) ?_) | (with_reducible refine pickQn_pos (by first | assumption | omega) ?_) | (with_reducible refine pickQn_neg (by first | assumption | omega) ?_) | ((with_reducible refine oQ_one ?_ ?_); exact ⟨_, rfl⟩) | (with_reducible refine And.intro (Eq.refl (α := World) _) ?_) | (with_reducible refine forall_one ?_)
    | (with_reducible refine gdtT ?_) | (with_reducible refine gdtF ?_) | (with_reducible refine gdfF ?_) | (with_reducible refine gdfT ?_) | (with_reducible refine gdu ?_ _)
    | (with_reducible refine gdt_pos (by first | assumption | omega) ?_) | (with_reducible refine gdt_neg (by first | assumption | omega) ?_) | (with_reducible refine gdt_split (fun hg => ?_) (fun hg => ?_))
    | (with_reducible refine gdf_pos (by first | assumption | omega) ?_) | (with_reducible refine gdf_neg (by first | assumption | omega) ?_) | (with_reducible refine gdf_split (fun hg => ?_) (fun hg => ?_))
    | (with_reducible refine gdtn_pos (by first | assumption | omega) ?_) | (with_reducible refine gdtn_neg (by first | assumption | omega) ?_) | (with_reducible refine gdtn_split (fun hg => ?_) (fun hg => ?_))
    | (with_reducible refine gdfn_pos (by first | assumption | omega) ?_) | (with_reducible refine gdfn_neg (by first | assumption | omega) ?_) | (with_reducible refine gdfn_split (fun hg => ?_) (fun hg => ?_))
    | (with_reducible refine gdtbn_pos (by assumption) ?_) | (with_reducible refine gdtbn_neg (by assumption) ?_) | (with_reducible refine gdfbn_pos (by assumption) ?_) | (with_reducible refine gdfbn_neg (by assumption) ?_)
    | (with_reducible refine gdtb_pos (by assumption) ?_) | (with_reducible refine gdtb_neg (by assumption) ?_) | (with_reducible refine gdtb_split (fun hg => ?_) (fun hg => ?_))
    | (with_reducible refine gdfb_pos (by assumption) ?_) | (with_reducible refine gdfb_neg (by assumption) ?_) | (with_reducible refine gdfb_split (fun hg => ?_) (fun hg => ?_))
    | (with_reducible refine pickT ?_) | (with_reducible refine pickF ?_)
    | (with_reducible refine pick_pos (by first | assumption | omega) ?_) | (with_reducible refine pick_neg (by first | assumption | omega) ?_)
    | (with_reducible refine pickn_pos (by first | assumption | omega) ?_) | (with_reducible refine pickn_neg (by first | assumption | omega) ?_)
    | (with_reducible refine pickbn_pos (by assumption) ?_) | (with_reducible refine pickbn_neg (by assumption) ?_)
    | (with_reducible refine pickb_pos (by assumption) ?_) | (with_reducible refine pickb_neg (by assumption) ?_)
    | (with_reducible refine condT ?_) | (with_reducible refine condF ?_)
    | (with_reducible refine cond_pos (by first | assumption | omega) ?_) | (with_reducible refine cond_neg (by first | assumption | omega) ?_) | (with_reducible refine condM_dec (fun hg => ?_) (fun hg => ?_))
    | (with_reducible refine condn_pos (by first | assumption | omega) ?_) | (with_reducible refine condn_neg (by first | assumption | omega) ?_) | (with_reducible refine condM_ndec (fun hg => ?_) (fun hg => ?_))
    | (with_reducible refine condbn_pos (by assumption) ?_) | (with_reducible refine condbn_neg (by assumption) ?_) | (with_reducible refine condbn_split (fun hg => ?_) (fun hg => ?_))
    | (with_reducible refine condb_pos (by assumption) ?_) | (with_reducible refine condb_neg (by assumption) ?_) | (with_reducible refine condM_b (fun hg => ?_) (fun hg => ?_))
    | ((with_reducible refine oM_gen (fun Kv hK => ?_)); simp [go_sem]; (try simp (disch := omega) only [wrapI64, wrapU8, wrapU32, wrapU64]); (first | refine hK _ _ ?_ | refine And.intro (by omega) (hK _ _ ?_)); clear hK; clear Kv)))
    refine join_own w.heap.size v (ts.map gpiece) w1 hown (by omega) (by rw [join_eq]; exact hjl2) ?_
    intro w' hb'
    rw [join_eq]
    exact h w' (hb1.trans (hb'.mono hz1))

def joinTo (l : List (List UInt8)) : List UInt8 := LexSpec.join l
theorem join_snoc (l : List (List UInt8)) (x : List UInt8) : LexSpec.join (l ++ [x]) = if l = [] then x else LexSpec.join l ++ 32 :: x := by
  induction l with
  | nil => rfl
  | cons y l ih =>
    cases l with
    | nil => rfl
    | cons z l =>
      have h1 : (z :: l) ≠ [] := by simp
      rw [if_neg h1] at ih
      rw [if_neg (by simp)]
      simp only [List.cons_append] at ih ⊢
      rw [LexSpec.join, ih, LexSpec.join]
      simp
set_option maxHeartbeats 1600000 in
theorem rPrint_ok (ts : List GTok) (v : Value) {K : Value → World → Prop} {w : World} (hrow : GRow w v ts) (hn : ts.length ≤ 100) (ht : ∀ t ∈ ts, t.text.length ≤ 100) (h : K (.string ⟨(gprint ts).toArray⟩) w) : callM Tryd.prog 21 #[v] K w := by
  apply sh_21_ok
  unfold sh_21
  obtain ⟨ad, c, rfl, hrow⟩ := hrow
  refine ⟨fun l w' => w' = w ∧ ∃ (b : List UInt8) (k : Nat), l = [.string ⟨b.toArray⟩, .int .i64 k] ∧ k ≤ ts.length ∧ b = gprint (ts.take k) ∧ b.length ≤ 203 * k, fun l _ => ts.length - (match l with | [_, .int _ n] => n.toNat | _ => 0), ⟨rfl, [], 0, rfl, by omega, rfl, by simp⟩, ?_⟩
  rintro _ _ w1 ⟨e1, b, k, rfl, hk, hb, hbl⟩
  subst w1
  simp only [List.getD_cons_zero, List.getD_cons_succ]
  have hbs : (⟨b.toArray⟩ : ByteArray).size = b.length := rfl
  by_cases hlt : k < ts.length
  · rcases hrow with rfl | ⟨bb, o, rfl, hbw, hcells⟩
    · simp at hlt
    obtain ⟨h0, h1, h2, h3⟩ := hcells k hlt
    have hix := idx23 (b := bb) (o := o) (c := c) hlt w
    have htk := ht ts[k] (List.getElem_mem hlt)
    have hsz : (⟨ts[k].text.toArray⟩ : ByteArray).size = ts[k].text.length := rfl
    have hes := escaped_size ts[k].text
    have hss : (⟨(LexSpec.escaped ts[k].text).toArray⟩ : ByteArray).size = (LexSpec.escaped ts[k].text).length := rfl
    have e32 : (⟨#[32]⟩ : ByteArray) = ⟨[32].toArray⟩ := rfl
    have e32s : (⟨#[32]⟩ : ByteArray).size = 1 := rfl
    have htake : ts.take (k + 1) = ts.take k ++ [ts[k]] := by rw [List.take_add_one, List.getElem?_eq_getElem hlt]; rfl
    have hgp : gprint (ts.take (k + 1)) = (if k = 0 then [] else b ++ [32]) ++ gpiece ts[k] := by
      rw [htake, gprint, List.map_append, List.map_cons, List.map_nil, join_snoc, hb, gprint]
      by_cases hk0 : k = 0
      · subst hk0; simp
      · rw [if_neg (fun hh => by have := congrArg List.length hh; simp only [List.length_map, List.length_take, List.length_nil] at this; omega), if_neg hk0]; simp
    repeat (any_goals (first
    | (with_reducible refine pureM_in ?_)
    | (with_reducible refine pureQ_in ?_) | (with_reducible refine gdQ_conv (fun _ => ?_)) | (with_reducible refine pickQT ?_) | (with_reducible refine pickQF ?_) | (with_reducible refine pickQ_pos (by first | assumption | omega) ?_) | (with_reducible refine pickQ_neg (by first | assumption | omega) ?_) | (with_reducible refine pickQn_pos (by first | assumption | omega) ?_) | (with_reducible refine pickQn_neg (by first | assumption | omega) ?_) | ((with_reducible refine oQ_one ?_ ?_); exact ⟨_, rfl⟩) | (with_reducible refine And.intro (Eq.refl (α := World) _) ?_) | (with_reducible refine forall_one ?_)
    | (with_reducible refine gdtT ?_) | (with_reducible refine gdtF ?_) | (with_reducible refine gdfF ?_) | (with_reducible refine gdfT ?_) | (with_reducible refine gdu ?_ _)
    | (with_reducible refine gdt_pos (by first | assumption | omega) ?_) | (with_reducible refine gdt_neg (by first | assumption | omega) ?_) | (with_reducible refine gdt_split (fun hg => ?_) (fun hg => ?_))
    | (with_reducible refine gdf_pos (by first | assumption | omega) ?_) | (with_reducible refine gdf_neg (by first | assumption | omega) ?_) | (with_reducible refine gdf_split (fun hg => ?_) (fun hg => ?_))
    | (with_reducible refine gdtn_pos (by first | assumption | omega) ?_) | (with_reducible refine gdtn_neg (by first | assumption | omega) ?_) | (with_reducible refine gdtn_split (fun hg => ?_) (fun hg => ?_))
    | (with_reducible refine gdfn_pos (by first | assumption | omega) ?_) | (with_reducible refine gdfn_neg (by first | assumption | omega) ?_) | (with_reducible refine gdfn_split (fun hg => ?_) (fun hg => ?_))
    | (with_reducible refine gdtbn_pos (by assumption) ?_) | (with_reducible refine gdtbn_neg (by assumption) ?_) | (with_reducible refine gdfbn_pos (by assumption) ?_) | (with_reducible refine gdfbn_neg (by assumption) ?_)
    | (with_reducible refine gdtb_pos (by assumption) ?_) | (with_reducible refine gdtb_neg (by assumption) ?_) | (with_reducible refine gdtb_split (fun hg => ?_) (fun hg => ?_))
    | (with_reducible refine gdfb_pos (by assumption) ?_) | (with_reducible refine gdfb_neg (by assumption) ?_) | (with_reducible refine gdfb_split (fun hg => ?_) (fun hg => ?_))
    | (with_reducible refine pickT ?_) | (with_reducible refine pickF ?_)
    | (with_reducible refine pick_pos (by first | assumption | omega) ?_) | (with_reducible refine pick_neg (by first | assumption | omega) ?_)
    | (with_reducible refine pickn_pos (by first | assumption | omega) ?_) | (with_reducible refine pickn_neg (by first | assumption | omega) ?_)
    | (with_reducible refine pickbn_pos (by assumption) ?_) | (with_reducible refine pickbn_neg (by assumption) ?_)
    | (with_reducible refine pickb_pos (by assumption) ?_) | (with_reducible refine pickb_neg (by assumption) ?_)
    | (with_reducible refine condT ?_) | (with_reducible refine condF ?_)
    | (with_reducible refine cond_pos (by first | assumption | omega) ?_) | (with_reducible refine cond_neg (by first | assumption | omega) ?_) | (with_reducible refine condM_dec (fun hg => ?_) (fun hg => ?_))
    | (with_reducible refine condn_pos (by first | assumption | omega) ?_) | (with_reducible refine condn_neg (by first | assumption | omega) ?_) | (with_reducible refine condM_ndec (fun hg => ?_) (fun hg => ?_))
    | (with_reducible refine condbn_pos (by assumption) ?_) | (with_reducible refine condbn_neg (by assumption) ?_) | (with_reducible refine condbn_split (fun hg => ?_) (fun hg => ?_))
    | (with_reducible refine condb_pos (by assumption) ?_) | (with_reducible refine condb_neg (by assumption) ?_) | (with_reducible refine condM_b (fun hg => ?_) (fun hg => ?_))
    | ((with_reducible refine oM_gen (fun Kv hK => ?_)); simp [go_sem]; (try simp (disch := omega) only [wrapI64, wrapU8, wrapU32, wrapU64]); (first | refine hK _ _ ?_ | refine And.intro (by omega) (hK _ _ ?_)); clear hK; clear Kv)))
    refine ⟨fun l w' => w' = w ∧ l = [.string ⟨(gprint (ts.take (k + 1))).toArray⟩] ∧ (gprint (ts.take (k + 1))).length ≤ 203 * (k + 1), ?_, ?_⟩
    · refine ⟨fun l w' => w' = w ∧ ∃ q : List UInt8, l = [.string ⟨q.toArray⟩] ∧ q = (if k = 0 then [] else b ++ [32]) ∧ q.length ≤ b.length + 1, ?_, ?_⟩
      · by_cases hk0 : k = 0
        · subst hk0
          repeat (any_goals (first
          | (with_reducible refine pureM_in ?_)
          | (with_reducible refine pureQ_in ?_) | (with_reducible refine gdQ_conv (fun _ => ?_)) | (with_reducible refine pickQT ?_) | (with_reducible refine pickQF ?_) | (with_reducible refine pickQ_pos (by first | assumption | omega) ?_) | (with_reducible refine pickQ_neg (by first | assumption | omega) ?_) | (with_reducible refine pickQn_pos (by first | assumption | omega) ?_) | (with_reducible refine pickQn_neg (by first | assumption | omega) ?_) | ((with_reducible refine oQ_one ?_ ?_); exact ⟨_, rfl⟩) | (with_reducible refine And.intro (Eq.refl (α := World) _) ?_) | (with_reducible refine forall_one ?_)
          | (with_reducible refine gdtT ?_) | (with_reducible refine gdtF ?_) | (with_reducible refine gdfF ?_) | (with_reducible refine gdfT ?_) | (with_reducible refine gdu ?_ _)
          | (with_reducible refine gdt_pos (by first | assumption | omega) ?_) | (with_reducible refine gdt_neg (by first | assumption | omega) ?_) | (with_reducible refine gdt_split (fun hg => ?_) (fun hg => ?_))
          | (with_reducible refine gdf_pos (by first | assumption | omega) ?_) | (with_reducible refine gdf_neg (by first | assumption | omega) ?_) | (with_reducible refine gdf_split (fun hg => ?_) (fun hg => ?_))
          | (with_reducible refine gdtn_pos (by first | assumption | omega) ?_) | (with_reducible refine gdtn_neg (by first | assumption | omega) ?_) | (with_reducible refine gdtn_split (fun hg => ?_) (fun hg => ?_))
          | (with_reducible refine gdfn_pos (by first | assumption | omega) ?_) | (with_reducible refine gdfn_neg (by first | assumption | omega) ?_) | (with_reducible refine gdfn_split (fun hg => ?_) (fun hg => ?_))
          | (with_reducible refine gdtbn_pos (by assumption) ?_) | (with_reducible refine gdtbn_neg (by assumption) ?_) | (with_reducible refine gdfbn_pos (by assumption) ?_) | (with_reducible refine gdfbn_neg (by assumption) ?_)
          | (with_reducible refine gdtb_pos (by assumption) ?_) | (with_reducible refine gdtb_neg (by assumption) ?_) | (with_reducible refine gdtb_split (fun hg => ?_) (fun hg => ?_))
          | (with_reducible refine gdfb_pos (by assumption) ?_) | (with_reducible refine gdfb_neg (by assumption) ?_) | (with_reducible refine gdfb_split (fun hg => ?_) (fun hg => ?_))
          | (with_reducible refine pickT ?_) | (with_reducible refine pickF ?_)
          | (with_reducible refine pick_pos (by first | assumption | omega) ?_) | (with_reducible refine pick_neg (by first | assumption | omega) ?_)
          | (with_reducible refine pickn_pos (by first | assumption | omega) ?_) | (with_reducible refine pickn_neg (by first | assumption | omega) ?_)
          | (with_reducible refine pickbn_pos (by assumption) ?_) | (with_reducible refine pickbn_neg (by assumption) ?_)
          | (with_reducible refine pickb_pos (by assumption) ?_) | (with_reducible refine pickb_neg (by assumption) ?_)
          | (with_reducible refine condT ?_) | (with_reducible refine condF ?_)
          | (with_reducible refine cond_pos (by first | assumption | omega) ?_) | (with_reducible refine cond_neg (by first | assumption | omega) ?_) | (with_reducible refine condM_dec (fun hg => ?_) (fun hg => ?_))
          | (with_reducible refine condn_pos (by first | assumption | omega) ?_) | (with_reducible refine condn_neg (by first | assumption | omega) ?_) | (with_reducible refine condM_ndec (fun hg => ?_) (fun hg => ?_))
          | (with_reducible refine condbn_pos (by assumption) ?_) | (with_reducible refine condbn_neg (by assumption) ?_) | (with_reducible refine condbn_split (fun hg => ?_) (fun hg => ?_))
          | (with_reducible refine condb_pos (by assumption) ?_) | (with_reducible refine condb_neg (by assumption) ?_) | (with_reducible refine condM_b (fun hg => ?_) (fun hg => ?_))
          | ((with_reducible refine oM_gen (fun Kv hK => ?_)); simp [go_sem]; (try simp (disch := omega) only [wrapI64, wrapU8, wrapU32, wrapU64]); (first | refine hK _ _ ?_ | refine And.intro (by omega) (hK _ _ ?_)); clear hK; clear Kv)))
          refine ⟨b, rfl, ?_, by omega⟩
          rw [hb]; rfl
        · repeat (any_goals (first
          | (with_reducible refine pureM_in ?_)
          | (with_reducible refine pureQ_in ?_) | (with_reducible refine gdQ_conv (fun _ => ?_)) | (with_reducible refine pickQT ?_) | (with_reducible refine pickQF ?_) | (with_reducible refine pickQ_pos (by first | assumption | omega) ?_) | (with_reducible refine pickQ_neg (by first | assumption | omega) ?_) | (with_reducible refine pickQn_pos (by first | assumption | omega) ?_) | (with_reducible refine pickQn_neg (by first | assumption | omega) ?_) | ((with_reducible refine oQ_one ?_ ?_); exact ⟨_, rfl⟩) | (with_reducible refine And.intro (Eq.refl (α := World) _) ?_) | (with_reducible refine forall_one ?_)
          | (with_reducible refine gdtT ?_) | (with_reducible refine gdtF ?_) | (with_reducible refine gdfF ?_) | (with_reducible refine gdfT ?_) | (with_reducible refine gdu ?_ _)
          | (with_reducible refine gdt_pos (by first | assumption | omega) ?_) | (with_reducible refine gdt_neg (by first | assumption | omega) ?_) | (with_reducible refine gdt_split (fun hg => ?_) (fun hg => ?_))
          | (with_reducible refine gdf_pos (by first | assumption | omega) ?_) | (with_reducible refine gdf_neg (by first | assumption | omega) ?_) | (with_reducible refine gdf_split (fun hg => ?_) (fun hg => ?_))
          | (with_reducible refine gdtn_pos (by first | assumption | omega) ?_) | (with_reducible refine gdtn_neg (by first | assumption | omega) ?_) | (with_reducible refine gdtn_split (fun hg => ?_) (fun hg => ?_))
          | (with_reducible refine gdfn_pos (by first | assumption | omega) ?_) | (with_reducible refine gdfn_neg (by first | assumption | omega) ?_) | (with_reducible refine gdfn_split (fun hg => ?_) (fun hg => ?_))
          | (with_reducible refine gdtbn_pos (by assumption) ?_) | (with_reducible refine gdtbn_neg (by assumption) ?_) | (with_reducible refine gdfbn_pos (by assumption) ?_) | (with_reducible refine gdfbn_neg (by assumption) ?_)
          | (with_reducible refine gdtb_pos (by assumption) ?_) | (with_reducible refine gdtb_neg (by assumption) ?_) | (with_reducible refine gdtb_split (fun hg => ?_) (fun hg => ?_))
          | (with_reducible refine gdfb_pos (by assumption) ?_) | (with_reducible refine gdfb_neg (by assumption) ?_) | (with_reducible refine gdfb_split (fun hg => ?_) (fun hg => ?_))
          | (with_reducible refine pickT ?_) | (with_reducible refine pickF ?_)
          | (with_reducible refine pick_pos (by first | assumption | omega) ?_) | (with_reducible refine pick_neg (by first | assumption | omega) ?_)
          | (with_reducible refine pickn_pos (by first | assumption | omega) ?_) | (with_reducible refine pickn_neg (by first | assumption | omega) ?_)
          | (with_reducible refine pickbn_pos (by assumption) ?_) | (with_reducible refine pickbn_neg (by assumption) ?_)
          | (with_reducible refine pickb_pos (by assumption) ?_) | (with_reducible refine pickb_neg (by assumption) ?_)
          | (with_reducible refine condT ?_) | (with_reducible refine condF ?_)
          | (with_reducible refine cond_pos (by first | assumption | omega) ?_) | (with_reducible refine cond_neg (by first | assumption | omega) ?_) | (with_reducible refine condM_dec (fun hg => ?_) (fun hg => ?_))
          | (with_reducible refine condn_pos (by first | assumption | omega) ?_) | (with_reducible refine condn_neg (by first | assumption | omega) ?_) | (with_reducible refine condM_ndec (fun hg => ?_) (fun hg => ?_))
          | (with_reducible refine condbn_pos (by assumption) ?_) | (with_reducible refine condbn_neg (by assumption) ?_) | (with_reducible refine condbn_split (fun hg => ?_) (fun hg => ?_))
          | (with_reducible refine condb_pos (by assumption) ?_) | (with_reducible refine condb_neg (by assumption) ?_) | (with_reducible refine condM_b (fun hg => ?_) (fun hg => ?_))
          | ((with_reducible refine oM_gen (fun Kv hK => ?_)); simp [go_sem]; (try simp (disch := omega) only [wrapI64, wrapU8, wrapU32, wrapU64]); (first | refine hK _ _ ?_ | refine And.intro (by omega) (hK _ _ ?_)); clear hK; clear Kv)))
          refine ⟨b ++ [32], by rw [e32, ba_append], by rw [if_neg hk0], by simp⟩
      · rintro _ _ w2 ⟨e2, q, rfl, hq, hql⟩
        subst w2
        simp only [List.getD_cons_zero]
        have hqs : (⟨q.toArray⟩ : ByteArray).size = q.length := rfl
        rw [← hq] at hgp
        rw [oM_indexAddr, hix, rM_ok]
        repeat (any_goals (first
        | (with_reducible refine pureM_in ?_)
        | (with_reducible refine pureQ_in ?_) | (with_reducible refine gdQ_conv (fun _ => ?_)) | (with_reducible refine pickQT ?_) | (with_reducible refine pickQF ?_) | (with_reducible refine pickQ_pos (by first | assumption | omega) ?_) | (with_reducible refine pickQ_neg (by first | assumption | omega) ?_) | (with_reducible refine pickQn_pos (by first | assumption | omega) ?_) | (with_reducible refine pickQn_neg (by first | assumption | omega) ?_) | ((with_reducible refine oQ_one ?_ ?_); exact ⟨_, rfl⟩) | (with_reducible refine And.intro (Eq.refl (α := World) _) ?_) | (with_reducible refine forall_one ?_)
        | (with_reducible refine gdtT ?_) | (with_reducible refine gdtF ?_) | (with_reducible refine gdfF ?_) | (with_reducible refine gdfT ?_) | (with_reducible refine gdu ?_ _)
        | (with_reducible refine gdt_pos (by first | assumption | omega) ?_) | (with_reducible refine gdt_neg (by first | assumption | omega) ?_) | (with_reducible refine gdt_split (fun hg => ?_) (fun hg => ?_))
        | (with_reducible refine gdf_pos (by first | assumption | omega) ?_) | (with_reducible refine gdf_neg (by first | assumption | omega) ?_) | (with_reducible refine gdf_split (fun hg => ?_) (fun hg => ?_))
        | (with_reducible refine gdtn_pos (by first | assumption | omega) ?_) | (with_reducible refine gdtn_neg (by first | assumption | omega) ?_) | (with_reducible refine gdtn_split (fun hg => ?_) (fun hg => ?_))
        | (with_reducible refine gdfn_pos (by first | assumption | omega) ?_) | (with_reducible refine gdfn_neg (by first | assumption | omega) ?_) | (with_reducible refine gdfn_split (fun hg => ?_) (fun hg => ?_))
        | (with_reducible refine gdtbn_pos (by assumption) ?_) | (with_reducible refine gdtbn_neg (by assumption) ?_) | (with_reducible refine gdfbn_pos (by assumption) ?_) | (with_reducible refine gdfbn_neg (by assumption) ?_)
        | (with_reducible refine gdtb_pos (by assumption) ?_) | (with_reducible refine gdtb_neg (by assumption) ?_) | (with_reducible refine gdtb_split (fun hg => ?_) (fun hg => ?_))
        | (with_reducible refine gdfb_pos (by assumption) ?_) | (with_reducible refine gdfb_neg (by assumption) ?_) | (with_reducible refine gdfb_split (fun hg => ?_) (fun hg => ?_))
        | (with_reducible refine pickT ?_) | (with_reducible refine pickF ?_)
        | (with_reducible refine pick_pos (by first | assumption | omega) ?_) | (with_reducible refine pick_neg (by first | assumption | omega) ?_)
        | (with_reducible refine pickn_pos (by first | assumption | omega) ?_) | (with_reducible refine pickn_neg (by first | assumption | omega) ?_)
        | (with_reducible refine pickbn_pos (by assumption) ?_) | (with_reducible refine pickbn_neg (by assumption) ?_)
        | (with_reducible refine pickb_pos (by assumption) ?_) | (with_reducible refine pickb_neg (by assumption) ?_)
        | (with_reducible refine condT ?_) | (with_reducible refine condF ?_)
        | (with_reducible refine cond_pos (by first | assumption | omega) ?_) | (with_reducible refine cond_neg (by first | assumption | omega) ?_) | (with_reducible refine condM_dec (fun hg => ?_) (fun hg => ?_))
        | (with_reducible refine condn_pos (by first | assumption | omega) ?_) | (with_reducible refine condn_neg (by first | assumption | omega) ?_) | (with_reducible refine condM_ndec (fun hg => ?_) (fun hg => ?_))
        | (with_reducible refine condbn_pos (by assumption) ?_) | (with_reducible refine condbn_neg (by assumption) ?_) | (with_reducible refine condbn_split (fun hg => ?_) (fun hg => ?_))
        | (with_reducible refine condb_pos (by assumption) ?_) | (with_reducible refine condb_neg (by assumption) ?_) | (with_reducible refine condM_b (fun hg => ?_) (fun hg => ?_))
        | ((with_reducible refine oM_gen (fun Kv hK => ?_)); simp [go_sem, h0]; (try simp (disch := omega) only [wrapI64, wrapU8, wrapU32, wrapU64]); (first | refine hK _ _ ?_ | refine And.intro (by omega) (hK _ _ ?_)); clear hK; clear Kv)))
        · rw [oM_indexAddr, hix, rM_ok]
          repeat (any_goals (first
          | (with_reducible refine pureM_in ?_)
          | (with_reducible refine pureQ_in ?_) | (with_reducible refine gdQ_conv (fun _ => ?_)) | (with_reducible refine pickQT ?_) | (with_reducible refine pickQF ?_) | (with_reducible refine pickQ_pos (by first | assumption | omega) ?_) | (with_reducible refine pickQ_neg (by first | assumption | omega) ?_) | (with_reducible refine pickQn_pos (by first | assumption | omega) ?_) | (with_reducible refine pickQn_neg (by first | assumption | omega) ?_) | ((with_reducible refine oQ_one ?_ ?_); exact ⟨_, rfl⟩) | (with_reducible refine And.intro (Eq.refl (α := World) _) ?_) | (with_reducible refine forall_one ?_)
          | (with_reducible refine gdtT ?_) | (with_reducible refine gdtF ?_) | (with_reducible refine gdfF ?_) | (with_reducible refine gdfT ?_) | (with_reducible refine gdu ?_ _)
          | (with_reducible refine gdt_pos (by first | assumption | omega) ?_) | (with_reducible refine gdt_neg (by first | assumption | omega) ?_) | (with_reducible refine gdt_split (fun hg => ?_) (fun hg => ?_))
          | (with_reducible refine gdf_pos (by first | assumption | omega) ?_) | (with_reducible refine gdf_neg (by first | assumption | omega) ?_) | (with_reducible refine gdf_split (fun hg => ?_) (fun hg => ?_))
          | (with_reducible refine gdtn_pos (by first | assumption | omega) ?_) | (with_reducible refine gdtn_neg (by first | assumption | omega) ?_) | (with_reducible refine gdtn_split (fun hg => ?_) (fun hg => ?_))
          | (with_reducible refine gdfn_pos (by first | assumption | omega) ?_) | (with_reducible refine gdfn_neg (by first | assumption | omega) ?_) | (with_reducible refine gdfn_split (fun hg => ?_) (fun hg => ?_))
          | (with_reducible refine gdtbn_pos (by assumption) ?_) | (with_reducible refine gdtbn_neg (by assumption) ?_) | (with_reducible refine gdfbn_pos (by assumption) ?_) | (with_reducible refine gdfbn_neg (by assumption) ?_)
          | (with_reducible refine gdtb_pos (by assumption) ?_) | (with_reducible refine gdtb_neg (by assumption) ?_) | (with_reducible refine gdtb_split (fun hg => ?_) (fun hg => ?_))
          | (with_reducible refine gdfb_pos (by assumption) ?_) | (with_reducible refine gdfb_neg (by assumption) ?_) | (with_reducible refine gdfb_split (fun hg => ?_) (fun hg => ?_))
          | (with_reducible refine pickT ?_) | (with_reducible refine pickF ?_)
          | (with_reducible refine pick_pos (by first | assumption | omega) ?_) | (with_reducible refine pick_neg (by first | assumption | omega) ?_)
          | (with_reducible refine pickn_pos (by first | assumption | omega) ?_) | (with_reducible refine pickn_neg (by first | assumption | omega) ?_)
          | (with_reducible refine pickbn_pos (by assumption) ?_) | (with_reducible refine pickbn_neg (by assumption) ?_)
          | (with_reducible refine pickb_pos (by assumption) ?_) | (with_reducible refine pickb_neg (by assumption) ?_)
          | (with_reducible refine condT ?_) | (with_reducible refine condF ?_)
          | (with_reducible refine cond_pos (by first | assumption | omega) ?_) | (with_reducible refine cond_neg (by first | assumption | omega) ?_) | (with_reducible refine condM_dec (fun hg => ?_) (fun hg => ?_))
          | (with_reducible refine condn_pos (by first | assumption | omega) ?_) | (with_reducible refine condn_neg (by first | assumption | omega) ?_) | (with_reducible refine condM_ndec (fun hg => ?_) (fun hg => ?_))
          | (with_reducible refine condbn_pos (by assumption) ?_) | (with_reducible refine condbn_neg (by assumption) ?_) | (with_reducible refine condbn_split (fun hg => ?_) (fun hg => ?_))
          | (with_reducible refine condb_pos (by assumption) ?_) | (with_reducible refine condb_neg (by assumption) ?_) | (with_reducible refine condM_b (fun hg => ?_) (fun hg => ?_))
          | ((with_reducible refine oM_gen (fun Kv hK => ?_)); simp [go_sem, h1]; (try simp (disch := omega) only [wrapI64, wrapU8, wrapU32, wrapU64]); (first | refine hK _ _ ?_ | refine And.intro (by omega) (hK _ _ ?_)); clear hK; clear Kv)))
          refine rEscaped_ok _ (by omega) ?_
          rw [ba_list]
          have hpc : gpiece ts[k] = LexSpec.escaped ts[k].text := by simp [gpiece, *]
          repeat (any_goals (first
          | (with_reducible refine pureM_in ?_)
          | (with_reducible refine pureQ_in ?_) | (with_reducible refine gdQ_conv (fun _ => ?_)) | (with_reducible refine pickQT ?_) | (with_reducible refine pickQF ?_) | (with_reducible refine pickQ_pos (by first | assumption | omega) ?_) | (with_reducible refine pickQ_neg (by first | assumption | omega) ?_) | (with_reducible refine pickQn_pos (by first | assumption | omega) ?_) | (with_reducible refine pickQn_neg (by first | assumption | omega) ?_) | ((with_reducible refine oQ_one ?_ ?_); exact ⟨_, rfl⟩) | (with_reducible refine And.intro (Eq.refl (α := World) _) ?_) | (with_reducible refine forall_one ?_)
          | (with_reducible refine gdtT ?_) | (with_reducible refine gdtF ?_) | (with_reducible refine gdfF ?_) | (with_reducible refine gdfT ?_) | (with_reducible refine gdu ?_ _)
          | (with_reducible refine gdt_pos (by first | assumption | omega) ?_) | (with_reducible refine gdt_neg (by first | assumption | omega) ?_) | (with_reducible refine gdt_split (fun hg => ?_) (fun hg => ?_))
          | (with_reducible refine gdf_pos (by first | assumption | omega) ?_) | (with_reducible refine gdf_neg (by first | assumption | omega) ?_) | (with_reducible refine gdf_split (fun hg => ?_) (fun hg => ?_))
          | (with_reducible refine gdtn_pos (by first | assumption | omega) ?_) | (with_reducible refine gdtn_neg (by first | assumption | omega) ?_) | (with_reducible refine gdtn_split (fun hg => ?_) (fun hg => ?_))
          | (with_reducible refine gdfn_pos (by first | assumption | omega) ?_) | (with_reducible refine gdfn_neg (by first | assumption | omega) ?_) | (with_reducible refine gdfn_split (fun hg => ?_) (fun hg => ?_))
          | (with_reducible refine gdtbn_pos (by assumption) ?_) | (with_reducible refine gdtbn_neg (by assumption) ?_) | (with_reducible refine gdfbn_pos (by assumption) ?_) | (with_reducible refine gdfbn_neg (by assumption) ?_)
          | (with_reducible refine gdtb_pos (by assumption) ?_) | (with_reducible refine gdtb_neg (by assumption) ?_) | (with_reducible refine gdtb_split (fun hg => ?_) (fun hg => ?_))
          | (with_reducible refine gdfb_pos (by assumption) ?_) | (with_reducible refine gdfb_neg (by assumption) ?_) | (with_reducible refine gdfb_split (fun hg => ?_) (fun hg => ?_))
          | (with_reducible refine pickT ?_) | (with_reducible refine pickF ?_)
          | (with_reducible refine pick_pos (by first | assumption | omega) ?_) | (with_reducible refine pick_neg (by first | assumption | omega) ?_)
          | (with_reducible refine pickn_pos (by first | assumption | omega) ?_) | (with_reducible refine pickn_neg (by first | assumption | omega) ?_)
          | (with_reducible refine pickbn_pos (by assumption) ?_) | (with_reducible refine pickbn_neg (by assumption) ?_)
          | (with_reducible refine pickb_pos (by assumption) ?_) | (with_reducible refine pickb_neg (by assumption) ?_)
          | (with_reducible refine condT ?_) | (with_reducible refine condF ?_)
          | (with_reducible refine cond_pos (by first | assumption | omega) ?_) | (with_reducible refine cond_neg (by first | assumption | omega) ?_) | (with_reducible refine condM_dec (fun hg => ?_) (fun hg => ?_))
          | (with_reducible refine condn_pos (by first | assumption | omega) ?_) | (with_reducible refine condn_neg (by first | assumption | omega) ?_) | (with_reducible refine condM_ndec (fun hg => ?_) (fun hg => ?_))
          | (with_reducible refine condbn_pos (by assumption) ?_) | (with_reducible refine condbn_neg (by assumption) ?_) | (with_reducible refine condbn_split (fun hg => ?_) (fun hg => ?_))
          | (with_reducible refine condb_pos (by assumption) ?_) | (with_reducible refine condb_neg (by assumption) ?_) | (with_reducible refine condM_b (fun hg => ?_) (fun hg => ?_))
          | ((with_reducible refine oM_gen (fun Kv hK => ?_)); simp [go_sem]; (try simp (disch := omega) only [wrapI64, wrapU8, wrapU32, wrapU64]); (first | refine hK _ _ ?_ | refine And.intro (by omega) (hK _ _ ?_)); clear hK; clear Kv)))
          rw [ba_append, hgp, hpc]
          refine ⟨rfl, by simp; omega⟩
        · rw [oM_indexAddr, hix, rM_ok]
          have hpc : gpiece ts[k] = ts[k].text := by simp [gpiece, *]
          repeat (any_goals (first
          | (with_reducible refine pureM_in ?_)
          | (with_reducible refine pureQ_in ?_) | (with_reducible refine gdQ_conv (fun _ => ?_)) | (with_reducible refine pickQT ?_) | (with_reducible refine pickQF ?_) | (with_reducible refine pickQ_pos (by first | assumption | omega) ?_) | (with_reducible refine pickQ_neg (by first | assumption | omega) ?_) | (with_reducible refine pickQn_pos (by first | assumption | omega) ?_) | (with_reducible refine pickQn_neg (by first | assumption | omega) ?_) | ((with_reducible refine oQ_one ?_ ?_); exact ⟨_, rfl⟩) | (with_reducible refine And.intro (Eq.refl (α := World) _) ?_) | (with_reducible refine forall_one ?_)
          | (with_reducible refine gdtT ?_) | (with_reducible refine gdtF ?_) | (with_reducible refine gdfF ?_) | (with_reducible refine gdfT ?_) | (with_reducible refine gdu ?_ _)
          | (with_reducible refine gdt_pos (by first | assumption | omega) ?_) | (with_reducible refine gdt_neg (by first | assumption | omega) ?_) | (with_reducible refine gdt_split (fun hg => ?_) (fun hg => ?_))
          | (with_reducible refine gdf_pos (by first | assumption | omega) ?_) | (with_reducible refine gdf_neg (by first | assumption | omega) ?_) | (with_reducible refine gdf_split (fun hg => ?_) (fun hg => ?_))
          | (with_reducible refine gdtn_pos (by first | assumption | omega) ?_) | (with_reducible refine gdtn_neg (by first | assumption | omega) ?_) | (with_reducible refine gdtn_split (fun hg => ?_) (fun hg => ?_))
          | (with_reducible refine gdfn_pos (by first | assumption | omega) ?_) | (with_reducible refine gdfn_neg (by first | assumption | omega) ?_) | (with_reducible refine gdfn_split (fun hg => ?_) (fun hg => ?_))
          | (with_reducible refine gdtbn_pos (by assumption) ?_) | (with_reducible refine gdtbn_neg (by assumption) ?_) | (with_reducible refine gdfbn_pos (by assumption) ?_) | (with_reducible refine gdfbn_neg (by assumption) ?_)
          | (with_reducible refine gdtb_pos (by assumption) ?_) | (with_reducible refine gdtb_neg (by assumption) ?_) | (with_reducible refine gdtb_split (fun hg => ?_) (fun hg => ?_))
          | (with_reducible refine gdfb_pos (by assumption) ?_) | (with_reducible refine gdfb_neg (by assumption) ?_) | (with_reducible refine gdfb_split (fun hg => ?_) (fun hg => ?_))
          | (with_reducible refine pickT ?_) | (with_reducible refine pickF ?_)
          | (with_reducible refine pick_pos (by first | assumption | omega) ?_) | (with_reducible refine pick_neg (by first | assumption | omega) ?_)
          | (with_reducible refine pickn_pos (by first | assumption | omega) ?_) | (with_reducible refine pickn_neg (by first | assumption | omega) ?_)
          | (with_reducible refine pickbn_pos (by assumption) ?_) | (with_reducible refine pickbn_neg (by assumption) ?_)
          | (with_reducible refine pickb_pos (by assumption) ?_) | (with_reducible refine pickb_neg (by assumption) ?_)
          | (with_reducible refine condT ?_) | (with_reducible refine condF ?_)
          | (with_reducible refine cond_pos (by first | assumption | omega) ?_) | (with_reducible refine cond_neg (by first | assumption | omega) ?_) | (with_reducible refine condM_dec (fun hg => ?_) (fun hg => ?_))
          | (with_reducible refine condn_pos (by first | assumption | omega) ?_) | (with_reducible refine condn_neg (by first | assumption | omega) ?_) | (with_reducible refine condM_ndec (fun hg => ?_) (fun hg => ?_))
          | (with_reducible refine condbn_pos (by assumption) ?_) | (with_reducible refine condbn_neg (by assumption) ?_) | (with_reducible refine condbn_split (fun hg => ?_) (fun hg => ?_))
          | (with_reducible refine condb_pos (by assumption) ?_) | (with_reducible refine condb_neg (by assumption) ?_) | (with_reducible refine condM_b (fun hg => ?_) (fun hg => ?_))
          | ((with_reducible refine oM_gen (fun Kv hK => ?_)); simp [go_sem, h1]; (try simp (disch := omega) only [wrapI64, wrapU8, wrapU32, wrapU64]); (first | refine hK _ _ ?_ | refine And.intro (by omega) (hK _ _ ?_)); clear hK; clear Kv)))
          rw [ba_append, hgp, hpc]
          refine ⟨rfl, by simp; omega⟩
    · rintro _ _ w2 ⟨e2, rfl, hgl⟩
      subst w2
      simp only [List.getD_cons_zero]
      repeat (any_goals (first
      | (with_reducible refine pureM_in ?_)
      | (with_reducible refine pureQ_in ?_) | (with_reducible refine gdQ_conv (fun _ => ?_)) | (with_reducible refine pickQT ?_) | (with_reducible refine pickQF ?_) | (with_reducible refine pickQ_pos (by first | assumption | omega) ?_) | (with_reducible refine pickQ_neg (by first | assumption | omega) ?_) | (with_reducible refine pickQn_pos (by first | assumption | omega) ?_) | (with_reducible refine pickQn_neg (by first | assumption | omega) ?_) | ((with_reducible refine oQ_one ?_ ?_); exact ⟨_, rfl⟩) | (with_reducible refine And.intro (Eq.refl (α := World) _) ?_) | (with_reducible refine forall_one ?_)
      | (with_reducible refine gdtT ?_) | (with_reducible refine gdtF ?_) | (with_reducible refine gdfF ?_) | (with_reducible refine gdfT ?_) | (with_reducible refine gdu ?_ _)
      | (with_reducible refine gdt_pos (by first | assumption | omega) ?_) | (with_reducible refine gdt_neg (by first | assumption | omega) ?_) | (with_reducible refine gdt_split (fun hg => ?_) (fun hg => ?_))
      | (with_reducible refine gdf_pos (by first | assumption | omega) ?_) | (with_reducible refine gdf_neg (by first | assumption | omega) ?_) | (with_reducible refine gdf_split (fun hg => ?_) (fun hg => ?_))
      | (with_reducible refine gdtn_pos (by first | assumption | omega) ?_) | (with_reducible refine gdtn_neg (by first | assumption | omega) ?_) | (with_reducible refine gdtn_split (fun hg => ?_) (fun hg => ?_))
      | (with_reducible refine gdfn_pos (by first | assumption | omega) ?_) | (with_reducible refine gdfn_neg (by first | assumption | omega) ?_) | (with_reducible refine gdfn_split (fun hg => ?_) (fun hg => ?_))
      | (with_reducible refine gdtbn_pos (by assumption) ?_) | (with_reducible refine gdtbn_neg (by assumption) ?_) | (with_reducible refine gdfbn_pos (by assumption) ?_) | (with_reducible refine gdfbn_neg (by assumption) ?_)
      | (with_reducible refine gdtb_pos (by assumption) ?_) | (with_reducible refine gdtb_neg (by assumption) ?_) | (with_reducible refine gdtb_split (fun hg => ?_) (fun hg => ?_))
      | (with_reducible refine gdfb_pos (by assumption) ?_) | (with_reducible refine gdfb_neg (by assumption) ?_) | (with_reducible refine gdfb_split (fun hg => ?_) (fun hg => ?_))
      | (with_reducible refine pickT ?_) | (with_reducible refine pickF ?_)
      | (with_reducible refine pick_pos (by first | assumption | omega) ?_) | (with_reducible refine pick_neg (by first | assumption | omega) ?_)
      | (with_reducible refine pickn_pos (by first | assumption | omega) ?_) | (with_reducible refine pickn_neg (by first | assumption | omega) ?_)
      | (with_reducible refine pickbn_pos (by assumption) ?_) | (with_reducible refine pickbn_neg (by assumption) ?_)
      | (with_reducible refine pickb_pos (by assumption) ?_) | (with_reducible refine pickb_neg (by assumption) ?_)
      | (with_reducible refine condT ?_) | (with_reducible refine condF ?_)
      | (with_reducible refine cond_pos (by first | assumption | omega) ?_) | (with_reducible refine cond_neg (by first | assumption | omega) ?_) | (with_reducible refine condM_dec (fun hg => ?_) (fun hg => ?_))
      | (with_reducible refine condn_pos (by first | assumption | omega) ?_) | (with_reducible refine condn_neg (by first | assumption | omega) ?_) | (with_reducible refine condM_ndec (fun hg => ?_) (fun hg => ?_))
      | (with_reducible refine condbn_pos (by assumption) ?_) | (with_reducible refine condbn_neg (by assumption) ?_) | (with_reducible refine condbn_split (fun hg => ?_) (fun hg => ?_))
      | (with_reducible refine condb_pos (by assumption) ?_) | (with_reducible refine condb_neg (by assumption) ?_) | (with_reducible refine condM_b (fun hg => ?_) (fun hg => ?_))
      | ((with_reducible refine oM_gen (fun Kv hK => ?_)); simp [go_sem]; (try simp (disch := omega) only [wrapI64, wrapU8, wrapU32, wrapU64]); (first | refine hK _ _ ?_ | refine And.intro (by omega) (hK _ _ ?_)); clear hK; clear Kv)))
      exact ⟨⟨rfl, _, k + 1, rfl, by omega, rfl, hgl⟩, by simp; omega⟩
  · obtain rfl : k = ts.length := by omega
    rw [List.take_length] at hb
    subst hb
    repeat (any_goals (first
    | (with_reducible refine pureM_in ?_)
    | (with_reducible refine pureQ_in ?_) | (with_reducible refine gdQ_conv (fun _ => ?_)) | (with_reducible refine pickQT ?_) | (with_reducible refine pickQF ?_) | (with_reducible refine pickQ_pos (by first | assumption | omega) ?_) | (with_reducible refine pickQ_neg (by first | assumption | omega) ?_) | (with_reducible refine pickQn_pos (by first | assumption | omega) ?_) | (with_reducible refine pickQn_neg (by first | assumption | omega) ?_) | ((with_reducible refine oQ_one ?_ ?_); exact ⟨_, rfl⟩) | (with_reducible refine And.intro (Eq.refl (α := World) _) ?_) | (with_reducible refine forall_one ?_)
    | (with_reducible refine gdtT ?_) | (with_reducible refine gdtF ?_) | (with_reducible refine gdfF ?_) | (with_reducible refine gdfT ?_) | (with_reducible refine gdu ?_ _)
    | (with_reducible refine gdt_pos (by first | assumption | omega) ?_) | (with_reducible refine gdt_neg (by first | assumption | omega) ?_) | (with_reducible refine gdt_split (fun hg => ?_) (fun hg => ?_))
    | (with_reducible refine gdf_pos (by first | assumption | omega) ?_) | (with_reducible refine gdf_neg (by first | assumption | omega) ?_) | (with_reducible refine gdf_split (fun hg => ?_) (fun hg => ?_))
    | (with_reducible refine gdtn_pos (by first | assumption | omega) ?_) | (with_reducible refine gdtn_neg (by first | assumption | omega) ?_) | (with_reducible refine gdtn_split (fun hg => ?_) (fun hg => ?_))
    | (with_reducible refine gdfn_pos (by first | assumption | omega) ?_) | (with_reducible refine gdfn_neg (by first | assumption | omega) ?_) | (with_reducible refine gdfn_split (fun hg => ?_) (fun hg => ?_))
    | (with_reducible refine gdtbn_pos (by assumption) ?_) | (with_reducible refine gdtbn_neg (by assumption) ?_) | (with_reducible refine gdfbn_pos (by assumption) ?_) | (with_reducible refine gdfbn_neg (by assumption) ?_)
    | (with_reducible refine gdtb_pos (by assumption) ?_) | (with_reducible refine gdtb_neg (by assumption) ?_) | (with_reducible refine gdtb_split (fun hg => ?_) (fun hg => ?_))
    | (with_reducible refine gdfb_pos (by assumption) ?_) | (with_reducible refine gdfb_neg (by assumption) ?_) | (with_reducible refine gdfb_split (fun hg => ?_) (fun hg => ?_))
    | (with_reducible refine pickT ?_) | (with_reducible refine pickF ?_)
    | (with_reducible refine pick_pos (by first | assumption | omega) ?_) | (with_reducible refine pick_neg (by first | assumption | omega) ?_)
    | (with_reducible refine pickn_pos (by first | assumption | omega) ?_) | (with_reducible refine pickn_neg (by first | assumption | omega) ?_)
    | (with_reducible refine pickbn_pos (by assumption) ?_) | (with_reducible refine pickbn_neg (by assumption) ?_)
    | (with_reducible refine pickb_pos (by assumption) ?_) | (with_reducible refine pickb_neg (by assumption) ?_)
    | (with_reducible refine condT ?_) | (with_reducible refine condF ?_)
    | (with_reducible refine cond_pos (by first | assumption | omega) ?_) | (with_reducible refine cond_neg (by first | assumption | omega) ?_) | (with_reducible refine condM_dec (fun hg => ?_) (fun hg => ?_))
    | (with_reducible refine condn_pos (by first | assumption | omega) ?_) | (with_reducible refine condn_neg (by first | assumption | omega) ?_) | (with_reducible refine condM_ndec (fun hg => ?_) (fun hg => ?_))
    | (with_reducible refine condbn_pos (by assumption) ?_) | (with_reducible refine condbn_neg (by assumption) ?_) | (with_reducible refine condbn_split (fun hg => ?_) (fun hg => ?_))
    | (with_reducible refine condb_pos (by assumption) ?_) | (with_reducible refine condb_neg (by assumption) ?_) | (with_reducible refine condM_b (fun hg => ?_) (fun hg => ?_))
    | ((with_reducible refine oM_gen (fun Kv hK => ?_)); simp [go_sem]; (try simp (disch := omega) only [wrapI64, wrapU8, wrapU32, wrapU64]); (first | refine hK _ _ ?_ | refine And.intro (by omega) (hK _ _ ?_)); clear hK; clear Kv)))
    exact h
end Go.Proofs
