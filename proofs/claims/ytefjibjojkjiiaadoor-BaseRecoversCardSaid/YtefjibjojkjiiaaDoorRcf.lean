/- Parts of the proof of the seat's statements (JR0, JnRec, HJl, JM1, JM2, JR1, ShApp, JR2, JR3, JR4, JR5, JR6): lemmas about the given translation and plain laws. No condition of their own. -/
import Derived.Test.YtefjibjojkjiiaaDoorRce
import Derived.Test.YtefjibjojkjiiaaDoorProg
import Derived.Deep.MidRow
import Derived.Deep.Upon
set_option linter.all false
namespace Go.Proofs.Cd
open Go Go.Sh Go.RowKit Go.Lib CodeSpec
set_option linter.unusedSimpArgs false
set_option maxRecDepth 10000
def lenT (t : List (List UInt8)) : Nat := (t.map (fun x => x.length)).sum
def sizeV (x : Val) : Nat := x.s.length + x.l.length + x.t.length + lenT x.t
def sizeL (l : List Val) : Nat := (l.map sizeV).sum
def FewT (l : List Val) : Prop := FewL l ∧ sizeL l ≤ 400
theorem lenT_snoc (t : List (List UInt8)) (i : Nat) (h : i < t.length) : lenT (t.take (i + 1)) = lenT (t.take i) + t[i].length := by
  unfold lenT
  rw [List.take_succ_eq_append_getElem h, List.map_append, List.sum_append]
  simp
theorem sizeL_snoc (l : List Val) (i : Nat) (h : i < l.length) : sizeL (l.take (i + 1)) = sizeL (l.take i) + sizeV l[i] := by
  unfold sizeL
  rw [List.take_succ_eq_append_getElem h, List.map_append, List.sum_append]
  simp
theorem sizeL_mem {l : List Val} {x : Val} (h : x ∈ l) : sizeV x ≤ sizeL l := by
  unfold sizeL
  induction l with
  | nil => cases h
  | cons y l ih =>
    rw [List.map_cons, List.sum_cons]
    rcases List.mem_cons.1 h with rfl | h
    · omega
    · have := ih h; omega
theorem enc_texts_len : ∀ (t : List (List UInt8)), (∀ x ∈ t, x.length ≤ 400) → ((t.map encText).flatten).length ≤ lenT t + 22 * t.length
  | [], _ => by simp [lenT]
  | x :: t, h => by
    have h1 := enc_texts_len t (fun y hy => h y (by simp [hy]))
    have h2 := h x (by simp)
    have h3 := encText_len x (by omega)
    have e : lenT (x :: t) = x.length + lenT t := by simp [lenT]
    rw [List.map_cons, List.flatten_cons, List.length_append, List.length_cons, e]
    omega
theorem enc_small (x : Val) (h : FewV x) (hs : sizeV x ≤ 400) (hn : InR x.n) (hl : ∀ n ∈ x.l, InR n) : (encV x).length ≤ 20000 := by
  obtain ⟨h1, h2, h3, h4⟩ := h
  have a := flat_bound encInt x.l 21 (fun n hx => encInt_len n (hl n hx))
  have b := enc_texts_len x.t h4
  have c := encList_len (x.l.map encInt) (by rw [List.length_map]; omega)
  have d := encList_len (x.t.map encText) (by rw [List.length_map]; omega)
  unfold sizeV at hs
  have e : (encNums x.l).length ≤ 20000 := by unfold encNums; omega
  have f : (encTexts x.t).length ≤ 20000 := by unfold encTexts; omega
  have g := absn_in x.n hn
  unfold encV
  split
  · unfold encNum
    split
    · simp
    · have := encInt_len _ g.1; omega
  split
  · have := encInt_len _ hn; omega
  split
  · have := encText_len x.s (by omega); omega
  split
  · exact e
  · exact f
set_option maxHeartbeats 3200000 in
theorem fewT_ok (l : List Val) (v : Value) {K : Value → World → Prop} {w : World} (hrow : ValRow w v l) (k : ∀ b w', Below w.heap.size w w' → (b = true → FewT l) → K (.bool b) w') : callM Tryd.prog 12 #[v] K w := by
  apply sh_12_ok
  unfold sh_12
  obtain ⟨ad, c, rfl, hrow⟩ := hrow
  have kf : ∀ w', Below w.heap.size w w' → K (.bool false) w' := fun w' hb => k false w' hb (fun e => by cases e)
  repeat (any_goals (first
  | (with_reducible refine pureM_in ?_)
  | (with_reducible first|refine pureQ_in ?_|refine gdQ_conv (fun _ => ?_)|refine pickQT ?_|refine pickQF ?_|refine pickQ_pos (by first|assumption|omega) ?_|refine pickQ_neg (by first|assumption|omega) ?_|refine pickQn_pos (by first|assumption|omega) ?_|refine pickQn_neg (by first|assumption|omega) ?_) | ((with_reducible refine oQ_one ?_ ?_); exact ⟨_, rfl⟩) | (with_reducible first|refine And.intro (Eq.refl (α := World) _) ?_|refine forall_one ?_|refine oQ_nil ?_) | (with_reducible refine oQ_of ⟨_, rfl⟩ (fun W0 hW0 => by (refine oM_gen (fun Kv hK => ?_)); simp [go_sem]; (first | exact hK _ _ ⟨rfl, rfl⟩ | exact ⟨by omega, hK _ _ ⟨rfl, rfl⟩⟩)) ?_)
  | (with_reducible first|refine gdtT ?_|refine gdtF ?_|refine gdfF ?_|refine gdfT ?_|refine gdu ?_ _|refine gdt_pos (by first|assumption|omega) ?_|refine gdt_neg (by first|assumption|omega) ?_|refine gdt_split (fun hg => ?_) (fun hg => ?_)|refine gdf_pos (by first|assumption|omega) ?_|refine gdf_neg (by first|assumption|omega) ?_|refine gdf_split (fun hg => ?_) (fun hg => ?_)|refine gdtn_pos (by first|assumption|omega) ?_|refine gdtn_neg (by first|assumption|omega) ?_|refine gdtn_split (fun hg => ?_) (fun hg => ?_)|refine gdfn_pos (by first|assumption|omega) ?_|refine gdfn_neg (by first|assumption|omega) ?_|refine gdfn_split (fun hg => ?_) (fun hg => ?_)|refine gdtbn_pos (by assumption) ?_|refine gdtbn_neg (by assumption) ?_|refine gdfbn_pos (by assumption) ?_|refine gdfbn_neg (by assumption) ?_|refine gdtb_pos (by assumption) ?_|refine gdtb_neg (by assumption) ?_|refine gdtb_split (fun hg => ?_) (fun hg => ?_)|refine gdfb_pos (by assumption) ?_|refine gdfb_neg (by assumption) ?_|refine gdfb_split (fun hg => ?_) (fun hg => ?_)|refine pickT ?_|refine pickF ?_|refine pick_pos (by first|assumption|omega) ?_|refine pick_neg (by first|assumption|omega) ?_|refine pickn_pos (by first|assumption|omega) ?_|refine pickn_neg (by first|assumption|omega) ?_|refine pickbn_pos (by assumption) ?_|refine pickbn_neg (by assumption) ?_|refine pickb_pos (by assumption) ?_|refine pickb_neg (by assumption) ?_|refine condT ?_|refine condF ?_|refine cond_pos (by first|assumption|omega) ?_|refine cond_neg (by first|assumption|omega) ?_|refine condM_dec (fun hg => ?_) (fun hg => ?_)|refine condn_pos (by first|assumption|omega) ?_|refine condn_neg (by first|assumption|omega) ?_|refine condM_ndec (fun hg => ?_) (fun hg => ?_)|refine condbn_pos (by assumption) ?_|refine condbn_neg (by assumption) ?_|refine condbn_split (fun hg => ?_) (fun hg => ?_)|refine condb_pos (by assumption) ?_|refine condb_neg (by assumption) ?_|refine condM_b (fun hg => ?_) (fun hg => ?_))
  | ((with_reducible refine oM_gen (fun Kv hK => ?_)); simp [go_sem]; (try simp (disch := omega) only [wrapI64, wrapU8, wrapU32, wrapU64]); (first | refine hK _ _ ?_ | refine And.intro (by omega) (hK _ _ ?_)); clear hK; clear Kv)))
  · exact kf w (Below.refl _ _)
  refine ⟨fun x w' => ∃ (n : Nat) (u : Value) (i : Nat), x = [.bool false, .int .i64 (n : Int), u, .int .i64 i] ∧ i ≤ l.length ∧ Below w.heap.size w w' ∧ (∀ j (h : j < l.length), j < i → FewV l[j]) ∧ n = sizeL (l.take i) ∧ n ≤ i * 161200, fun x _ => l.length - (match x with | [_, _, _, .int _ n] => n.toNat | _ => 0), ⟨0, _, 0, rfl, by omega, Below.refl _ _, fun j _ hj => by omega, rfl, by omega⟩, ?_⟩
  rintro _ _ w1 ⟨n, u, i, rfl, hi, hb1, hall, hn, hnb⟩
  simp only [List.getD_cons_zero, List.getD_cons_succ]
  by_cases hlt : i < l.length
  · rcases hrow with rfl | ⟨b, o, rfl, hbw, hcells⟩
    · simp at hlt
    obtain ⟨cs, hvc, hcl, hcell⟩ := hcells i hlt
    obtain ⟨vl, vt, rfl, hrl, hrt⟩ := hvc.row
    obtain ⟨al, cl, rfl, _⟩ := hrl
    have hrt' := hrt
    obtain ⟨at_, ct, rfl, hrt⟩ := hrt
    have hcw : ∀ w', Below w.heap.size w w' → (w'.cell? ⟨b, o + 5 * i + 2, none⟩ = some (.string ⟨l[i].s.toArray⟩) ∧ w'.cell? ⟨b, o + 5 * i + 3, none⟩ = some (.slice al l[i].l.length cl) ∧ w'.cell? ⟨b, o + 5 * i + 4, none⟩ = some (.slice at_ l[i].t.length ct)) := by
      intro w' hb
      refine ⟨?_, ?_, ?_⟩ <;> rw [hb.cell hbw, hcell _ (by omega)] <;> rfl
    obtain ⟨c2, c3, c4⟩ := hcw w1 hb1
    have hix : ∀ w', (Instr.indexAt 28 (.slice (some ⟨b, o, none⟩) l.length c) (.int .i64 i)).run Tryd.prog w' = .ok (.pointer (some ⟨b, o + 5 * i, none⟩)) w' := fun w' => idx28 hlt w'
    have hLs := hvc.ls
    have hLl := hvc.ll
    have hLt := hvc.lt
    obtain ⟨w2, hw2⟩ : ∃ w2, w2 = { w1 with drawn := w1.drawn + 1 } := ⟨_, rfl⟩
    have hb2 : Below w.heap.size w w2 := by rw [hw2]; exact hb1.drew
    obtain ⟨d2, d3, d4⟩ := hcw w2 hb2
    have hsn := sizeL_snoc l i hlt
    repeat (any_goals (first
    | (with_reducible refine pureM_in ?_)
    | (with_reducible first|refine pureQ_in ?_|refine gdQ_conv (fun _ => ?_)|refine pickQT ?_|refine pickQF ?_|refine pickQ_pos (by first|assumption|omega) ?_|refine pickQ_neg (by first|assumption|omega) ?_|refine pickQn_pos (by first|assumption|omega) ?_|refine pickQn_neg (by first|assumption|omega) ?_) | ((with_reducible refine oQ_one ?_ ?_); exact ⟨_, rfl⟩) | (with_reducible first|refine And.intro (Eq.refl (α := World) _) ?_|refine forall_one ?_|refine oQ_nil ?_) | (with_reducible refine oQ_of ⟨_, rfl⟩ (fun W0 hW0 => by (refine oM_gen (fun Kv hK => ?_)); simp [go_sem]; (first | exact hK _ _ ⟨rfl, rfl⟩ | exact ⟨by omega, hK _ _ ⟨rfl, rfl⟩⟩)) ?_)
    | (rw [oM_indexAddr, hix, rM_ok])
    | (with_reducible first|refine gdtT ?_|refine gdtF ?_|refine gdfF ?_|refine gdfT ?_|refine gdu ?_ _|refine gdt_pos (by first|assumption|omega) ?_|refine gdt_neg (by first|assumption|omega) ?_|refine gdt_split (fun hg => ?_) (fun hg => ?_)|refine gdf_pos (by first|assumption|omega) ?_|refine gdf_neg (by first|assumption|omega) ?_|refine gdf_split (fun hg => ?_) (fun hg => ?_)|refine gdtn_pos (by first|assumption|omega) ?_|refine gdtn_neg (by first|assumption|omega) ?_|refine gdtn_split (fun hg => ?_) (fun hg => ?_)|refine gdfn_pos (by first|assumption|omega) ?_|refine gdfn_neg (by first|assumption|omega) ?_|refine gdfn_split (fun hg => ?_) (fun hg => ?_)|refine gdtbn_pos (by assumption) ?_|refine gdtbn_neg (by assumption) ?_|refine gdfbn_pos (by assumption) ?_|refine gdfbn_neg (by assumption) ?_|refine gdtb_pos (by assumption) ?_|refine gdtb_neg (by assumption) ?_|refine gdtb_split (fun hg => ?_) (fun hg => ?_)|refine gdfb_pos (by assumption) ?_|refine gdfb_neg (by assumption) ?_|refine gdfb_split (fun hg => ?_) (fun hg => ?_)|refine pickT ?_|refine pickF ?_|refine pick_pos (by first|assumption|omega) ?_|refine pick_neg (by first|assumption|omega) ?_|refine pickn_pos (by first|assumption|omega) ?_|refine pickn_neg (by first|assumption|omega) ?_|refine pickbn_pos (by assumption) ?_|refine pickbn_neg (by assumption) ?_|refine pickb_pos (by assumption) ?_|refine pickb_neg (by assumption) ?_|refine condT ?_|refine condF ?_|refine cond_pos (by first|assumption|omega) ?_|refine cond_neg (by first|assumption|omega) ?_|refine condM_dec (fun hg => ?_) (fun hg => ?_)|refine condn_pos (by first|assumption|omega) ?_|refine condn_neg (by first|assumption|omega) ?_|refine condM_ndec (fun hg => ?_) (fun hg => ?_)|refine condbn_pos (by assumption) ?_|refine condbn_neg (by assumption) ?_|refine condbn_split (fun hg => ?_) (fun hg => ?_)|refine condb_pos (by assumption) ?_|refine condb_neg (by assumption) ?_|refine condM_b (fun hg => ?_) (fun hg => ?_))
    | ((with_reducible refine oM_gen (fun Kv hK => ?_)); simp [go_sem, c2, c3, c4]; (try simp (disch := omega) only [wrapI64, wrapU8, wrapU32, wrapU64]); (first | refine hK _ _ ?_ | refine And.intro (by omega) (hK _ _ ?_)); clear hK; clear Kv)))
    any_goals exact kf w1 hb1
    refine quietM_one ?_
    rw [← hw2]
    repeat (any_goals (first
    | (with_reducible refine pureM_in ?_)
    | (with_reducible first|refine pureQ_in ?_|refine gdQ_conv (fun _ => ?_)|refine pickQT ?_|refine pickQF ?_|refine pickQ_pos (by first|assumption|omega) ?_|refine pickQ_neg (by first|assumption|omega) ?_|refine pickQn_pos (by first|assumption|omega) ?_|refine pickQn_neg (by first|assumption|omega) ?_) | ((with_reducible refine oQ_one ?_ ?_); exact ⟨_, rfl⟩) | (with_reducible first|refine And.intro (Eq.refl (α := World) _) ?_|refine forall_one ?_|refine oQ_nil ?_) | (with_reducible refine oQ_of ⟨_, rfl⟩ (fun W0 hW0 => by (refine oM_gen (fun Kv hK => ?_)); simp [go_sem]; (first | exact hK _ _ ⟨rfl, rfl⟩ | exact ⟨by omega, hK _ _ ⟨rfl, rfl⟩⟩)) ?_)
    | (rw [oM_indexAddr, hix, rM_ok])
    | (with_reducible first|refine gdtT ?_|refine gdtF ?_|refine gdfF ?_|refine gdfT ?_|refine gdu ?_ _|refine gdt_pos (by first|assumption|omega) ?_|refine gdt_neg (by first|assumption|omega) ?_|refine gdt_split (fun hg => ?_) (fun hg => ?_)|refine gdf_pos (by first|assumption|omega) ?_|refine gdf_neg (by first|assumption|omega) ?_|refine gdf_split (fun hg => ?_) (fun hg => ?_)|refine gdtn_pos (by first|assumption|omega) ?_|refine gdtn_neg (by first|assumption|omega) ?_|refine gdtn_split (fun hg => ?_) (fun hg => ?_)|refine gdfn_pos (by first|assumption|omega) ?_|refine gdfn_neg (by first|assumption|omega) ?_|refine gdfn_split (fun hg => ?_) (fun hg => ?_)|refine gdtbn_pos (by assumption) ?_|refine gdtbn_neg (by assumption) ?_|refine gdfbn_pos (by assumption) ?_|refine gdfbn_neg (by assumption) ?_|refine gdtb_pos (by assumption) ?_|refine gdtb_neg (by assumption) ?_|refine gdtb_split (fun hg => ?_) (fun hg => ?_)|refine gdfb_pos (by assumption) ?_|refine gdfb_neg (by assumption) ?_|refine gdfb_split (fun hg => ?_) (fun hg => ?_)|refine pickT ?_|refine pickF ?_|refine pick_pos (by first|assumption|omega) ?_|refine pick_neg (by first|assumption|omega) ?_|refine pickn_pos (by first|assumption|omega) ?_|refine pickn_neg (by first|assumption|omega) ?_|refine pickbn_pos (by assumption) ?_|refine pickbn_neg (by assumption) ?_|refine pickb_pos (by assumption) ?_|refine pickb_neg (by assumption) ?_|refine condT ?_|refine condF ?_|refine cond_pos (by first|assumption|omega) ?_|refine cond_neg (by first|assumption|omega) ?_|refine condM_dec (fun hg => ?_) (fun hg => ?_)|refine condn_pos (by first|assumption|omega) ?_|refine condn_neg (by first|assumption|omega) ?_|refine condM_ndec (fun hg => ?_) (fun hg => ?_)|refine condbn_pos (by assumption) ?_|refine condbn_neg (by assumption) ?_|refine condbn_split (fun hg => ?_) (fun hg => ?_)|refine condb_pos (by assumption) ?_|refine condb_neg (by assumption) ?_|refine condM_b (fun hg => ?_) (fun hg => ?_))
    | ((with_reducible refine oM_gen (fun Kv hK => ?_)); simp [go_sem, d2, d3, d4]; (try simp (disch := omega) only [wrapI64, wrapU8, wrapU32, wrapU64]); (first | refine hK _ _ ?_ | refine And.intro (by omega) (hK _ _ ?_)); clear hK; clear Kv)))
    refine ⟨fun x w' => ∃ (m : Nat) (q : Nat), x = [.bool false, .int .i64 (m : Int), .int .i64 q] ∧ q ≤ l[i].t.length ∧ Below w.heap.size w w' ∧ (∀ j (h : j < l[i].t.length), j < q → l[i].t[j].length ≤ 400) ∧ m = n + l[i].s.length + l[i].l.length + l[i].t.length + lenT (l[i].t.take q) ∧ lenT (l[i].t.take q) ≤ q * 400, fun x _ => l[i].t.length - (match x with | [_, _, .int _ n] => n.toNat | _ => 0), ⟨n + l[i].s.length + l[i].l.length + l[i].t.length, 0, by simp, by omega, hb2, fun j _ hj => by omega, by simp [lenT], by simp [lenT]⟩, ?_⟩
    rintro _ _ w3 ⟨n', q, rfl, hq, hb3, hall3, hn3, hnb3⟩
    simp only [List.getD_cons_zero, List.getD_cons_succ]
    obtain ⟨f2, f3, f4⟩ := hcw w3 hb3
    by_cases hql : q < l[i].t.length
    · rcases hrt with h | ⟨b', o', rfl, hbw', hcells'⟩
      · rw [h] at hql; simp at hql
      have g := hcells' q hql
      rw [← hb3.cell hbw'] at g
      simp only [strV] at g
      have hix' := idx23 (b := b') (o := o') (c := ct) hql w3
      have hts := lenT_snoc l[i].t q hql
      repeat (any_goals (first
      | (with_reducible refine pureM_in ?_)
      | (with_reducible first|refine pureQ_in ?_|refine gdQ_conv (fun _ => ?_)|refine pickQT ?_|refine pickQF ?_|refine pickQ_pos (by first|assumption|omega) ?_|refine pickQ_neg (by first|assumption|omega) ?_|refine pickQn_pos (by first|assumption|omega) ?_|refine pickQn_neg (by first|assumption|omega) ?_) | ((with_reducible refine oQ_one ?_ ?_); exact ⟨_, rfl⟩) | (with_reducible first|refine And.intro (Eq.refl (α := World) _) ?_|refine forall_one ?_|refine oQ_nil ?_) | (with_reducible refine oQ_of ⟨_, rfl⟩ (fun W0 hW0 => by (refine oM_gen (fun Kv hK => ?_)); simp [go_sem]; (first | exact hK _ _ ⟨rfl, rfl⟩ | exact ⟨by omega, hK _ _ ⟨rfl, rfl⟩⟩)) ?_)
      | (rw [oM_indexAddr, hix, rM_ok]) | (rw [oM_indexAddr, hix', rM_ok])
      | (with_reducible first|refine gdtT ?_|refine gdtF ?_|refine gdfF ?_|refine gdfT ?_|refine gdu ?_ _|refine gdt_pos (by first|assumption|omega) ?_|refine gdt_neg (by first|assumption|omega) ?_|refine gdt_split (fun hg => ?_) (fun hg => ?_)|refine gdf_pos (by first|assumption|omega) ?_|refine gdf_neg (by first|assumption|omega) ?_|refine gdf_split (fun hg => ?_) (fun hg => ?_)|refine gdtn_pos (by first|assumption|omega) ?_|refine gdtn_neg (by first|assumption|omega) ?_|refine gdtn_split (fun hg => ?_) (fun hg => ?_)|refine gdfn_pos (by first|assumption|omega) ?_|refine gdfn_neg (by first|assumption|omega) ?_|refine gdfn_split (fun hg => ?_) (fun hg => ?_)|refine gdtbn_pos (by assumption) ?_|refine gdtbn_neg (by assumption) ?_|refine gdfbn_pos (by assumption) ?_|refine gdfbn_neg (by assumption) ?_|refine gdtb_pos (by assumption) ?_|refine gdtb_neg (by assumption) ?_|refine gdtb_split (fun hg => ?_) (fun hg => ?_)|refine gdfb_pos (by assumption) ?_|refine gdfb_neg (by assumption) ?_|refine gdfb_split (fun hg => ?_) (fun hg => ?_)|refine pickT ?_|refine pickF ?_|refine pick_pos (by first|assumption|omega) ?_|refine pick_neg (by first|assumption|omega) ?_|refine pickn_pos (by first|assumption|omega) ?_|refine pickn_neg (by first|assumption|omega) ?_|refine pickbn_pos (by assumption) ?_|refine pickbn_neg (by assumption) ?_|refine pickb_pos (by assumption) ?_|refine pickb_neg (by assumption) ?_|refine condT ?_|refine condF ?_|refine cond_pos (by first|assumption|omega) ?_|refine cond_neg (by first|assumption|omega) ?_|refine condM_dec (fun hg => ?_) (fun hg => ?_)|refine condn_pos (by first|assumption|omega) ?_|refine condn_neg (by first|assumption|omega) ?_|refine condM_ndec (fun hg => ?_) (fun hg => ?_)|refine condbn_pos (by assumption) ?_|refine condbn_neg (by assumption) ?_|refine condbn_split (fun hg => ?_) (fun hg => ?_)|refine condb_pos (by assumption) ?_|refine condb_neg (by assumption) ?_|refine condM_b (fun hg => ?_) (fun hg => ?_))
      | ((with_reducible refine oM_gen (fun Kv hK => ?_)); simp [go_sem, f2, f3, f4, g]; (try simp (disch := omega) only [wrapI64, wrapU8, wrapU32, wrapU64]); (first | refine hK _ _ ?_ | refine And.intro (by omega) (hK _ _ ?_)); clear hK; clear Kv)))
      · exact kf w3 hb3
      · refine ⟨⟨n' + l[i].t[q].length, q + 1, by simp, hql, hb3, fun j h hj => ?_, by omega, by omega⟩, by simp; omega⟩
        by_cases e : j = q
        · subst e; omega
        · exact hall3 j h (by omega)
    · have hq2 : q = l[i].t.length := by omega
      repeat (any_goals (first
      | (with_reducible refine pureM_in ?_)
      | (with_reducible first|refine pureQ_in ?_|refine gdQ_conv (fun _ => ?_)|refine pickQT ?_|refine pickQF ?_|refine pickQ_pos (by first|assumption|omega) ?_|refine pickQ_neg (by first|assumption|omega) ?_|refine pickQn_pos (by first|assumption|omega) ?_|refine pickQn_neg (by first|assumption|omega) ?_) | ((with_reducible refine oQ_one ?_ ?_); exact ⟨_, rfl⟩) | (with_reducible first|refine And.intro (Eq.refl (α := World) _) ?_|refine forall_one ?_|refine oQ_nil ?_) | (with_reducible refine oQ_of ⟨_, rfl⟩ (fun W0 hW0 => by (refine oM_gen (fun Kv hK => ?_)); simp [go_sem]; (first | exact hK _ _ ⟨rfl, rfl⟩ | exact ⟨by omega, hK _ _ ⟨rfl, rfl⟩⟩)) ?_)
      | (rw [oM_indexAddr, hix, rM_ok])
      | (with_reducible first|refine gdtT ?_|refine gdtF ?_|refine gdfF ?_|refine gdfT ?_|refine gdu ?_ _|refine gdt_pos (by first|assumption|omega) ?_|refine gdt_neg (by first|assumption|omega) ?_|refine gdt_split (fun hg => ?_) (fun hg => ?_)|refine gdf_pos (by first|assumption|omega) ?_|refine gdf_neg (by first|assumption|omega) ?_|refine gdf_split (fun hg => ?_) (fun hg => ?_)|refine gdtn_pos (by first|assumption|omega) ?_|refine gdtn_neg (by first|assumption|omega) ?_|refine gdtn_split (fun hg => ?_) (fun hg => ?_)|refine gdfn_pos (by first|assumption|omega) ?_|refine gdfn_neg (by first|assumption|omega) ?_|refine gdfn_split (fun hg => ?_) (fun hg => ?_)|refine gdtbn_pos (by assumption) ?_|refine gdtbn_neg (by assumption) ?_|refine gdfbn_pos (by assumption) ?_|refine gdfbn_neg (by assumption) ?_|refine gdtb_pos (by assumption) ?_|refine gdtb_neg (by assumption) ?_|refine gdtb_split (fun hg => ?_) (fun hg => ?_)|refine gdfb_pos (by assumption) ?_|refine gdfb_neg (by assumption) ?_|refine gdfb_split (fun hg => ?_) (fun hg => ?_)|refine pickT ?_|refine pickF ?_|refine pick_pos (by first|assumption|omega) ?_|refine pick_neg (by first|assumption|omega) ?_|refine pickn_pos (by first|assumption|omega) ?_|refine pickn_neg (by first|assumption|omega) ?_|refine pickbn_pos (by assumption) ?_|refine pickbn_neg (by assumption) ?_|refine pickb_pos (by assumption) ?_|refine pickb_neg (by assumption) ?_|refine condT ?_|refine condF ?_|refine cond_pos (by first|assumption|omega) ?_|refine cond_neg (by first|assumption|omega) ?_|refine condM_dec (fun hg => ?_) (fun hg => ?_)|refine condn_pos (by first|assumption|omega) ?_|refine condn_neg (by first|assumption|omega) ?_|refine condM_ndec (fun hg => ?_) (fun hg => ?_)|refine condbn_pos (by assumption) ?_|refine condbn_neg (by assumption) ?_|refine condbn_split (fun hg => ?_) (fun hg => ?_)|refine condb_pos (by assumption) ?_|refine condb_neg (by assumption) ?_|refine condM_b (fun hg => ?_) (fun hg => ?_))
      | ((with_reducible refine oM_gen (fun Kv hK => ?_)); simp [go_sem, f2, f3, f4]; (try simp (disch := omega) only [wrapI64, wrapU8, wrapU32, wrapU64]); (first | refine hK _ _ ?_ | refine And.intro (by omega) (hK _ _ ?_)); clear hK; clear Kv)))
      refine ⟨⟨n', _, i + 1, rfl, hlt, hb3, fun j h hj => ?_, ?_, ?_⟩, by simp; omega⟩
      · by_cases e : j = i
        · subst e
          refine ⟨by omega, by omega, by omega, fun t ht => ?_⟩
          obtain ⟨m, hm, rfl⟩ := List.mem_iff_getElem.1 ht
          exact hall3 m hm (by omega)
        · exact hall j h (by omega)
      · rw [hsn, hn3, hn, hq2, List.take_length]
        unfold sizeV
        omega
      · rw [hq2, List.take_length] at hnb3 hn3
        omega
  · have hil : i = l.length := by omega
    rw [hil, List.take_length] at hn
    repeat (any_goals (first
    | (with_reducible refine pureM_in ?_)
    | (with_reducible first|refine pureQ_in ?_|refine gdQ_conv (fun _ => ?_)|refine pickQT ?_|refine pickQF ?_|refine pickQ_pos (by first|assumption|omega) ?_|refine pickQ_neg (by first|assumption|omega) ?_|refine pickQn_pos (by first|assumption|omega) ?_|refine pickQn_neg (by first|assumption|omega) ?_) | ((with_reducible refine oQ_one ?_ ?_); exact ⟨_, rfl⟩) | (with_reducible first|refine And.intro (Eq.refl (α := World) _) ?_|refine forall_one ?_|refine oQ_nil ?_) | (with_reducible refine oQ_of ⟨_, rfl⟩ (fun W0 hW0 => by (refine oM_gen (fun Kv hK => ?_)); simp [go_sem]; (first | exact hK _ _ ⟨rfl, rfl⟩ | exact ⟨by omega, hK _ _ ⟨rfl, rfl⟩⟩)) ?_)
    | (with_reducible first|refine gdtT ?_|refine gdtF ?_|refine gdfF ?_|refine gdfT ?_|refine gdu ?_ _|refine gdt_pos (by first|assumption|omega) ?_|refine gdt_neg (by first|assumption|omega) ?_|refine gdt_split (fun hg => ?_) (fun hg => ?_)|refine gdf_pos (by first|assumption|omega) ?_|refine gdf_neg (by first|assumption|omega) ?_|refine gdf_split (fun hg => ?_) (fun hg => ?_)|refine gdtn_pos (by first|assumption|omega) ?_|refine gdtn_neg (by first|assumption|omega) ?_|refine gdtn_split (fun hg => ?_) (fun hg => ?_)|refine gdfn_pos (by first|assumption|omega) ?_|refine gdfn_neg (by first|assumption|omega) ?_|refine gdfn_split (fun hg => ?_) (fun hg => ?_)|refine gdtbn_pos (by assumption) ?_|refine gdtbn_neg (by assumption) ?_|refine gdfbn_pos (by assumption) ?_|refine gdfbn_neg (by assumption) ?_|refine gdtb_pos (by assumption) ?_|refine gdtb_neg (by assumption) ?_|refine gdtb_split (fun hg => ?_) (fun hg => ?_)|refine gdfb_pos (by assumption) ?_|refine gdfb_neg (by assumption) ?_|refine gdfb_split (fun hg => ?_) (fun hg => ?_)|refine pickT ?_|refine pickF ?_|refine pick_pos (by first|assumption|omega) ?_|refine pick_neg (by first|assumption|omega) ?_|refine pickn_pos (by first|assumption|omega) ?_|refine pickn_neg (by first|assumption|omega) ?_|refine pickbn_pos (by assumption) ?_|refine pickbn_neg (by assumption) ?_|refine pickb_pos (by assumption) ?_|refine pickb_neg (by assumption) ?_|refine condT ?_|refine condF ?_|refine cond_pos (by first|assumption|omega) ?_|refine cond_neg (by first|assumption|omega) ?_|refine condM_dec (fun hg => ?_) (fun hg => ?_)|refine condn_pos (by first|assumption|omega) ?_|refine condn_neg (by first|assumption|omega) ?_|refine condM_ndec (fun hg => ?_) (fun hg => ?_)|refine condbn_pos (by assumption) ?_|refine condbn_neg (by assumption) ?_|refine condbn_split (fun hg => ?_) (fun hg => ?_)|refine condb_pos (by assumption) ?_|refine condb_neg (by assumption) ?_|refine condM_b (fun hg => ?_) (fun hg => ?_))
    | ((with_reducible refine oM_gen (fun Kv hK => ?_)); simp [go_sem]; (try simp (disch := omega) only [wrapI64, wrapU8, wrapU32, wrapU64]); (first | refine hK _ _ ?_ | refine And.intro (by omega) (hK _ _ ?_)); clear hK; clear Kv)))
    refine k _ w1 hb1 (fun hb => ⟨⟨by omega, fun x hx => ?_⟩, ?_⟩)
    · obtain ⟨m, hm, rfl⟩ := List.mem_iff_getElem.1 hx
      exact hall m hm (by omega)
    · simp at hb; omega
end Go.Proofs.Cd
set_option maxRecDepth 4000
namespace JnSpec
open CodeSpec DkSpec
variable {all sure : List Bs} {f : Int} {A : Ab} {j : Jn}
theorem LJ.live (h : LJ f A j all sure) (hb : j.broken = false) : Live f A j all sure := by
  rcases h with h | h
  · exact h.2
  · rw [hb] at h; cases h.1
theorem Upp.add_rec (u : Upp A) (h : Live f A j all sure) (hf : 0 ≤ f ∧ f ≤ 15) (hj : j.broken = false) {t : Bs} (ht : t.length ≤ 20000) (hb : j.bytes + (form t).length ≤ 1048576) :
    ∃ B, appendJ A f j t = (0, B, ⟨j.recs ++ [t], j.bytes + (form t).length, false⟩) ∧ Upp B ∧ Live f B ⟨j.recs ++ [t], j.bytes + (form t).length, false⟩ (all ++ [t]) sure := by
  obtain ⟨B, e, u', _, _⟩ := u.append hf hj (by rw [h.x, h.bytes]) ht hb
  refine ⟨B, e, u', ?_⟩
  have hs := append_spec (.inl ⟨hj, h⟩) hf t
  rw [e] at hs
  dsimp only at hs
  rcases hs with ⟨_, _, h3⟩ | ⟨h1, _⟩ | ⟨h1, _⟩
  · exact h3.live rfl
  · cases h1
  · rcases h1 with h1 | h1 | h1 <;> cases h1
theorem Upp.sync_rec (u : Upp A) (h : Live f A j all sure) (hf : 0 ≤ f ∧ f ≤ 15) (hj : j.broken = false) :
    ∃ B, syncJ A f j = (0, B, j) ∧ Upp B ∧ Live f B j all j.recs := by
  have hs := u.sync hf
  have e : syncJ A f j = (0, settleA A f (A.F f).1, j) := by
    unfold syncJ
    rw [if_neg (by rw [hj]; simp), hs]
    cases j
    simp only at hj
    subst hj
    rfl
  refine ⟨_, e, u.settle _, ?_⟩
  have hs := sync_spec (.inl ⟨hj, h⟩) hf
  rw [e] at hs
  dsimp only at hs
  rcases hs.2 with ⟨_, h3⟩ | ⟨h1, _⟩
  · exact h3.live hj
  · exact absurd rfl h1
theorem Upp.crash (u : Upp A) (keep : List Int) : Upp (startA (crashA A keep)) := by
  unfold startA crashA
  rw [if_neg (by rw [u.down]; simp)]
  exact ⟨rfl, rfl, u.lost⟩
theorem Upp.again (u : Upp A) (h : GoodJ f A all sure) (hf : 0 ≤ f ∧ f ≤ 15) (keep : List Int) :
    ∃ B j', JnSpec.openJ (startA (crashA A keep)) f = (some j', 0, B) ∧ Upp B ∧ Live f B j' j'.recs j'.recs ∧ j'.broken = false ∧ j'.recs <+: all ∧ sure <+: j'.recs := by
  have u1 := u.crash keep
  have g1 := (h.crash keep).start
  obtain ⟨B, e, uB, _, _⟩ := u1.openJ hf
  refine ⟨B, _, e, uB, ?_⟩
  have hs := (open_spec g1 hf).2
  rw [e] at hs
  dsimp only at hs
  rcases hs with ⟨hn, _⟩ | ⟨j', e2, _, hb, h1, h2, h3⟩
  · cases hn
  · cases e2
    exact ⟨h3, rfl, h1, h2⟩
theorem Live.bytes_le (h : Live f A j all sure) {n : Nat} (hn : j.recs.length ≤ n) : j.bytes ≤ n * 20064 := by
  have h1 := h.good.few
  rw [h.recs] at h1
  have h2 := formL_bound h1
  have h3 : j.recs.length * 20064 ≤ n * 20064 := Nat.mul_le_mul_right _ hn
  rw [h.bytes]; exact Nat.le_trans h2 h3
theorem up_new : Upp newA := ⟨rfl, rfl, rfl⟩
theorem open_empty (u : Upp A) (h : GoodJ f A [] []) (h0 : (A.F f).1 = []) (hf : 0 ≤ f ∧ f ≤ 15) : ∃ B, JnSpec.openJ A f = (some ⟨[], 0, false⟩, 0, B) ∧ Upp B ∧ Live f B ⟨[], 0, false⟩ [] [] := by
  obtain ⟨B, e, uB, _, _⟩ := u.openJ hf
  have e0 : readJ [] = ([], 0) := readJ_none first_nil
  rw [h0, e0] at e
  have hs := (open_spec h hf).2
  rw [e] at hs
  dsimp only at hs
  rcases hs with ⟨hn, _⟩ | ⟨j', e2, _, hb, h1, h2, h3⟩
  · cases hn
  · cases e2
    exact ⟨B, e, uB, h3⟩
theorem open_new (hf : 0 ≤ f ∧ f ≤ 15) : ∃ B, JnSpec.openJ newA f = (some ⟨[], 0, false⟩, 0, B) ∧ Upp B ∧ Live f B ⟨[], 0, false⟩ [] [] := open_empty up_new (good_start f) rfl hf
end JnSpec
set_option linter.unusedVariables false
set_option maxRecDepth 100000
namespace Go.Proofs
open Go Go.Sh
def pre_10_32 (K : Value → World → Prop) (l_27 : List Value) (v41_15 : Value) (v54_24 : Value) (M_32 : List Value → World → Prop) (w : World) : Prop :=
 oM Tryd.prog (.binOp .eql 3 (.tmp 0) (.tmp 1) 3) 4 [(l_27.getD 1 undef), v54_24] (fun v63_34 w =>
 condM v63_34
 (callM Tryd.prog 61 #[v41_15] (fun v65_35 w =>
 oM Tryd.prog (.binOp .neq 54 (.tmp 0) (.const (.int .i64 0)) 54) 4 [v65_35] (fun v66_36 w =>
 condM v66_36
 (K (.bool false) w)
 (M_32 [(l_27.getD 0 undef)] w)) w) w)
 (M_32 [(l_27.getD 0 undef)] w)) w
def post_10_32 (K : Value → World → Prop) (M_30 : List Value → World → Prop) (a0 : Value) (l_27 : List Value) (v41_15 : Value) (l_33 : List Value) (w : World) : Prop :=
 oM Tryd.prog (.call (Go.Call.mk (.builtin .len) #[(.tmp 0)] #[28])) 3 [a0] (fun v69_37 w =>
 oM Tryd.prog (.binOp .lss 3 (.tmp 0) (.tmp 1) 3) 4 [(l_27.getD 1 undef), v69_37] (fun v70_38 w =>
 condM v70_38
 (oM Tryd.prog (.indexAddr 28 (.tmp 0) (.tmp 1)) 0 [a0, (l_27.getD 1 undef)] (fun v74_39 w =>
 oM Tryd.prog (.load 25 (.tmp 0)) 25 [v74_39] (fun v75_40 w =>
 callM Tryd.prog 32 #[v75_40] (fun v76_41 w =>
 callM Tryd.prog 50 #[v41_15, v76_41] (fun v77_42 w =>
 oM Tryd.prog (.binOp .neq 54 (.tmp 0) (.const (.int .i64 0)) 54) 4 [v77_42] (fun v78_43 w =>
 condM v78_43
 (K (.bool false) w)
 (M_30 [(l_33.getD 0 undef)] w)) w) w) w) w) w)
 (M_30 [(l_33.getD 0 undef)] w)) w) w
def loop_10_90 (J_90 : List Value → World → Prop) (K : Value → World → Prop) (l_92 : List Value) (m_91 : List Value → World → Nat) (v112_64 : Value) (v137_81 : Value) (v20_1 : Value) (w0_l_92 : World) : Prop :=
(fun w => (
 oM Tryd.prog (.call (Go.Call.mk (.builtin .len) #[(.tmp 0)] #[28])) 3 [v112_64] (fun v152_93 w =>
 oM Tryd.prog (.binOp .lss 3 (.tmp 0) (.tmp 1) 3) 4 [(l_92.getD 2 undef), v152_93] (fun v153_94 w =>
 condM v153_94
 (callM Tryd.prog 56 #[v137_81, (l_92.getD 2 undef)] (fun v158_95 w =>
 callM Tryd.prog 23 #[v158_95] (fun v159_96 w =>
 oM Tryd.prog (.binOp .eql 34 (.tmp 0) (.const (.pointer none)) 34) 4 [v159_96] (fun v161_97 w =>
 condM v161_97
 (K (.bool false) w)
 (oM Tryd.prog (.indexAddr 28 (.tmp 0) (.tmp 1)) 0 [v112_64, (l_92.getD 2 undef)] (fun v165_98 w =>
 oM Tryd.prog (.load 25 (.tmp 0)) 25 [v165_98] (fun v166_99 w =>
 callM Tryd.prog 33 #[v159_96, v166_99] (fun v167_100 w =>
 oM Tryd.prog (.unOp .not 4 (.tmp 0)) 4 [v167_100] (fun v168_101 w =>
 gdM (gd v168_101 false) (pureM v159_96) (fun v170_102 w =>
 gdM (gd v168_101 false) (callM Tryd.prog 31 #[v170_102]) (fun v171_103 w =>
 gdM (gd v168_101 false) (oM Tryd.prog (.unOp .not 4 (.tmp 0)) 4 [v171_103]) (fun v172_104 w =>
 oM Tryd.prog (.pick (.tmp 0) (.tmp 1) (.tmp 2)) 4 [v168_101, (.bool true), v172_104] (fun v173_105 w =>
 condM v173_105
 (K (.bool false) w)
 (oM Tryd.prog (.binOp .add 3 (.tmp 0) (.tmp 1) 3) 3 [(l_92.getD 2 undef), (.int .i64 1)] (fun v155_106 w =>
 J_90 [v159_96, (l_92.getD 1 undef), v155_106] w ∧ m_91 [v159_96, (l_92.getD 1 undef), v155_106] w < m_91 l_92 w0_l_92) w)) w) w) w) w) w) w) w) w)) w) w) w)
 (K v20_1 w)) w) w)) w0_l_92
def loop_10_65 (J_65 : List Value → World → Prop) (K : Value → World → Prop) (a3 : Value) (l_67 : List Value) (m_66 : List Value → World → Nat) (v112_64 : Value) (v20_1 : Value) (v35_12 : Value) (v87_48 : Value) (w0_l_67 : World) : Prop :=
(fun w => (
 oM Tryd.prog (.call (Go.Call.mk (.builtin .len) #[(.tmp 0)] #[28])) 3 [a3] (fun v115_68 w =>
 oM Tryd.prog (.binOp .lss 3 (.tmp 0) (.tmp 1) 3) 4 [(l_67.getD 1 undef), v115_68] (fun v116_69 w =>
 condM v116_69
 (oM Tryd.prog (.indexAddr 28 (.tmp 0) (.tmp 1)) 0 [a3, (l_67.getD 1 undef)] (fun v122_70 w =>
 oM Tryd.prog (.load 25 (.tmp 0)) 25 [v122_70] (fun v123_71 w =>
 callM Tryd.prog 32 #[v123_71] (fun v124_72 w =>
 callM Tryd.prog 50 #[v87_48, v124_72] (fun v125_73 w =>
 oM Tryd.prog (.binOp .neq 54 (.tmp 0) (.const (.int .i64 0)) 54) 4 [v125_73] (fun v126_74 w =>
 condM v126_74
 (K (.bool false) w)
 (oM Tryd.prog (.binOp .add 3 (.tmp 0) (.tmp 1) 3) 3 [(l_67.getD 1 undef), (.int .i64 1)] (fun v118_75 w =>
 J_65 [(l_67.getD 0 undef), v118_75] w ∧ m_66 [(l_67.getD 0 undef), v118_75] w < m_66 l_67 w0_l_67) w)) w) w) w) w) w)
 (callM Tryd.prog 61 #[v87_48] (fun v128_76 w =>
 oM Tryd.prog (.binOp .neq 54 (.tmp 0) (.const (.int .i64 0)) 54) 4 [v128_76] (fun v129_77 w =>
 condM v129_77
 (K (.bool false) w)
 (callM Tryd.prog 62 #[v35_12, (.slice none 0 0)] (fun v131_78 w =>
 callM Tryd.prog 63 #[v35_12] (fun v133_79 w =>
 callM Tryd.prog 49 #[v35_12, (.int .i64 2)] (fun v136_80 w =>
 oM Tryd.prog (.extract (.tmp 0) 0) 53 [v136_80] (fun v137_81 w =>
 oM Tryd.prog (.extract (.tmp 0) 1) 54 [v136_80] (fun v138_82 w =>
 oM Tryd.prog (.binOp .eql 53 (.tmp 0) (.const (.pointer none)) 53) 4 [v137_81] (fun v140_83 w =>
 gdM (gd v140_83 false) (pureM v138_82) (fun v142_84 w =>
 gdM (gd v140_83 false) (oM Tryd.prog (.binOp .neq 54 (.tmp 0) (.const (.int .i64 0)) 54) 4 [v142_84]) (fun v143_85 w =>
 oM Tryd.prog (.pick (.tmp 0) (.tmp 1) (.tmp 2)) 4 [v140_83, (.bool true), v143_85] (fun v144_86 w =>
 condM v144_86
 (K (.bool false) w)
 (callM Tryd.prog 55 #[v137_81] (fun v146_87 w =>
 oM Tryd.prog (.call (Go.Call.mk (.builtin .len) #[(.tmp 0)] #[28])) 3 [v112_64] (fun v148_88 w =>
 oM Tryd.prog (.binOp .neq 3 (.tmp 0) (.tmp 1) 3) 4 [v146_87, v148_88] (fun v149_89 w =>
 condM v149_89
 (K (.bool false) w)
 (loopM [undef, (l_67.getD 0 undef), (.int .i64 0)] w (fun J_90 m_91 l_92 u_l_92 w0_l_92 => loop_10_90 J_90 K l_92 m_91 v112_64 v137_81 v20_1 w0_l_92))) w) w) w)) w) w) w) w) w) w) w) w) w)) w) w)) w) w)) w0_l_67
def loop_10_25 (J_25 : List Value → World → Prop) (K : Value → World → Prop) (a0 : Value) (a2 : Value) (a3 : Value) (l_27 : List Value) (m_26 : List Value → World → Nat) (v20_1 : Value) (v35_12 : Value) (v41_15 : Value) (v54_24 : Value) (w0_l_27 : World) : Prop :=
(fun w => (
 oM Tryd.prog (.call (Go.Call.mk (.builtin .len) #[(.tmp 0)] #[28])) 3 [a0] (fun v57_28 w =>
 oM Tryd.prog (.binOp .leq 3 (.tmp 0) (.tmp 1) 3) 4 [(l_27.getD 1 undef), v57_28] (fun v58_29 w =>
 condM v58_29
 (joinM (fun M_30 => (joinM (fun M_32 => (pre_10_32 K l_27 v41_15 v54_24 M_32 w))
 (fun l_33 u_l_33 w => (post_10_32 K M_30 a0 l_27 v41_15 l_33 w))))
 (fun l_31 u_l_31 w => (oM Tryd.prog (.binOp .add 3 (.tmp 0) (.tmp 1) 3) 3 [(l_27.getD 1 undef), (.int .i64 1)] (fun v60_44 w =>
 J_25 [(l_31.getD 0 undef), v60_44] w ∧ m_26 [(l_31.getD 0 undef), v60_44] w < m_26 l_27 w0_l_27) w)))
 (callM Tryd.prog 62 #[v35_12, a2] (fun v81_45 w =>
 callM Tryd.prog 63 #[v35_12] (fun v83_46 w =>
 callM Tryd.prog 49 #[v35_12, (.int .i64 2)] (fun v86_47 w =>
 oM Tryd.prog (.extract (.tmp 0) 0) 53 [v86_47] (fun v87_48 w =>
 oM Tryd.prog (.extract (.tmp 0) 1) 54 [v86_47] (fun v88_49 w =>
 oM Tryd.prog (.binOp .eql 53 (.tmp 0) (.const (.pointer none)) 53) 4 [v87_48] (fun v90_50 w =>
 gdM (gd v90_50 false) (pureM v88_49) (fun v92_51 w =>
 gdM (gd v90_50 false) (oM Tryd.prog (.binOp .neq 54 (.tmp 0) (.const (.int .i64 0)) 54) 4 [v92_51]) (fun v93_52 w =>
 oM Tryd.prog (.pick (.tmp 0) (.tmp 1) (.tmp 2)) 4 [v90_50, (.bool true), v93_52] (fun v94_53 w =>
 condM v94_53
 (K (.bool false) w)
 (callM Tryd.prog 55 #[v87_48] (fun v96_54 w =>
 oM Tryd.prog (.binOp .lss 3 (.tmp 0) (.tmp 1) 3) 4 [v96_54, v54_24] (fun v99_55 w =>
 gdM (gd v99_55 false) (pureM v96_54) (fun v101_56 w =>
 gdM (gd v99_55 false) (pureM a0) (fun v102_57 w =>
 gdM (gd v99_55 false) (oM Tryd.prog (.call (Go.Call.mk (.builtin .len) #[(.tmp 0)] #[28])) 3 [v102_57]) (fun v103_58 w =>
 gdM (gd v99_55 false) (oM Tryd.prog (.binOp .gtr 3 (.tmp 0) (.tmp 1) 3) 4 [v101_56, v103_58]) (fun v104_59 w =>
 oM Tryd.prog (.pick (.tmp 0) (.tmp 1) (.tmp 2)) 4 [v99_55, (.bool true), v104_59] (fun v105_60 w =>
 condM v105_60
 (K (.bool false) w)
 (oM Tryd.prog (.buildSlice 28 0 #[]) 28 [] (fun v106_61 w =>
 oM Tryd.prog (.slice 28 (.tmp 0) none (some (.tmp 1)) none) 28 [a0, v96_54] (fun v109_62 w =>
 oM Tryd.prog (.call (Go.Call.mk (.builtin .append) #[(.tmp 0), (.tmp 1)] #[28, 28])) 28 [v106_61, v109_62] (fun v110_63 w =>
 oM Tryd.prog (.call (Go.Call.mk (.builtin .append) #[(.tmp 0), (.tmp 1)] #[28, 28])) 28 [v110_63, a3] (fun v112_64 w =>
 loopM [(l_27.getD 0 undef), (.int .i64 0)] w (fun J_65 m_66 l_67 u_l_67 w0_l_67 => loop_10_65 J_65 K a3 l_67 m_66 v112_64 v20_1 v35_12 v87_48 w0_l_67)) w) w) w) w)) w) w) w) w) w) w) w)) w) w) w) w) w) w) w) w) w)) w) w)) w0_l_27
def sh_10 (a0 : Value) (a1 : Value) (a2 : Value) (a3 : Value) (K : Value → World → Prop) (w : World) : Prop :=
 callM Tryd.prog 46 #[] (fun v20_1 w =>
 callM Tryd.prog 12 #[a0] (fun v22_2 w =>
 oM Tryd.prog (.unOp .not 4 (.tmp 0)) 4 [v22_2] (fun v23_3 w =>
 gdM (gd v23_3 false) (pureM a3) (fun v25_4 w =>
 gdM (gd v23_3 false) (callM Tryd.prog 12 #[v25_4]) (fun v26_5 w =>
 gdM (gd v23_3 false) (oM Tryd.prog (.unOp .not 4 (.tmp 0)) 4 [v26_5]) (fun v27_6 w =>
 oM Tryd.prog (.pick (.tmp 0) (.tmp 1) (.tmp 2)) 4 [v23_3, (.bool true), v27_6] (fun v28_7 w =>
 gdM (gd v28_7 false) (pureM a2) (fun v30_8 w =>
 gdM (gd v28_7 false) (oM Tryd.prog (.call (Go.Call.mk (.builtin .len) #[(.tmp 0)] #[22])) 3 [v30_8]) (fun v31_9 w =>
 gdM (gd v28_7 false) (oM Tryd.prog (.binOp .gtr 3 (.tmp 0) (.tmp 1) 3) 4 [v31_9, (.int .i64 50)]) (fun v32_10 w =>
 oM Tryd.prog (.pick (.tmp 0) (.tmp 1) (.tmp 2)) 4 [v28_7, (.bool true), v32_10] (fun v33_11 w =>
 condM v33_11
 (K v20_1 w)
 (callM Tryd.prog 48 #[] (fun v35_12 w =>
 oM Tryd.prog (.binOp .eql 51 (.tmp 0) (.const (.pointer none)) 51) 4 [v35_12] (fun v37_13 w =>
 condM v37_13
 (K (.bool false) w)
 (callM Tryd.prog 49 #[v35_12, (.int .i64 2)] (fun v40_14 w =>
 oM Tryd.prog (.extract (.tmp 0) 0) 53 [v40_14] (fun v41_15 w =>
 oM Tryd.prog (.extract (.tmp 0) 1) 54 [v40_14] (fun v42_16 w =>
 oM Tryd.prog (.binOp .eql 53 (.tmp 0) (.const (.pointer none)) 53) 4 [v41_15] (fun v44_17 w =>
 gdM (gd v44_17 false) (pureM v42_16) (fun v46_18 w =>
 gdM (gd v44_17 false) (oM Tryd.prog (.binOp .neq 54 (.tmp 0) (.const (.int .i64 0)) 54) 4 [v46_18]) (fun v47_19 w =>
 oM Tryd.prog (.pick (.tmp 0) (.tmp 1) (.tmp 2)) 4 [v44_17, (.bool true), v47_19] (fun v48_20 w =>
 condM v48_20
 (K (.bool false) w)
 (oM Tryd.prog (.convert 5 3 (.tmp 0)) 3 [a1] (fun v50_21 w =>
 oM Tryd.prog (.call (Go.Call.mk (.builtin .len) #[(.tmp 0)] #[28])) 3 [a0] (fun v52_22 w =>
 oM Tryd.prog (.binOp .add 3 (.tmp 0) (.tmp 1) 3) 3 [v52_22, (.int .i64 1)] (fun v53_23 w =>
 oM Tryd.prog (.binOp .rem 3 (.tmp 0) (.tmp 1) 3) 3 [v50_21, v53_23] (fun v54_24 w =>
 loopM [(.bool false), (.int .i64 0)] w (fun J_25 m_26 l_27 u_l_27 w0_l_27 => loop_10_25 J_25 K a0 a2 a3 l_27 m_26 v20_1 v35_12 v41_15 v54_24 w0_l_27)) w) w) w) w)) w) w) w) w) w) w) w)) w) w)) w) w) w) w) w) w) w) w) w) w) w
theorem sh_10_eq (a0 : Value) (a1 : Value) (a2 : Value) (a3 : Value) (K : Value → World → Prop) (w : World) : sh_10 a0 a1 a2 a3 K w = code Tryd.prog (fun _ => 0) 175 (Tryd.f10.body.getD .skip) (slotsAt [a0, a1, a2, a3]) (retK Tryd.prog [.tmp 8] K) w := by kernel_rfl
theorem sh_10_ok {a0 a1 a2 a3 : Value} {K : Value → World → Prop} {w : World} (h : sh_10 a0 a1 a2 a3 K w) : callM Tryd.prog 10 #[a0, a1, a2, a3] K w :=
  calls_of_code (fun _ => 0) (fn := Tryd.f10) (rs := [.tmp 8]) Tryd.func10 rfl rfl (by kernel_rfl) (Nat.le_of_ble_eq_true rfl) ((sh_10_eq a0 a1 a2 a3 K w).mp h)
end Go.Proofs
namespace Go.Proofs
open Go Go.Sh Go.RowKit CodeSpec JnSpec DkSpec
set_option linter.unusedSimpArgs false
set_option linter.unusedVariables false
set_option maxRecDepth 10000
attribute [local go_sem] oM_indexAddr
def RowN {α : Type} (mk : α → List Value) (N : Nat) (w : World) (v : Value) (l : List α) : Prop :=
  ∃ ad c, v = .slice ad l.length c ∧ (ad = none → l.length = 0 ∧ c = 0) ∧ (l = [] ∨ ∃ b o, ad = some ⟨b, o, none⟩ ∧ b < N ∧ ∀ (k : Nat) (x : Value), (flat mk l)[k]? = some x → w.cell? ⟨b, o + k, none⟩ = some x)
theorem RowN.row {α : Type} {mk : α → List Value} {N sz : Nat} {w : World} {v : Value} {l : List α} (h : RowN mk N w v l) (hN : N ≤ w.heap.size) : RowR mk sz w v l := by
  obtain ⟨ad, c, h1, h2, h3⟩ := h
  exact ⟨ad, c, h1, h2, h3.imp id (fun ⟨b, o, h4, h5, h6⟩ => ⟨b, o, h4, by omega, h6⟩)⟩
theorem RowN.below {α : Type} {mk : α → List Value} {N : Nat} {w w' : World} {v : Value} {l : List α} (h : RowN mk N w v l) (hb : Below N w w') : RowN mk N w' v l := by
  obtain ⟨ad, c, h1, h2, h3⟩ := h
  exact ⟨ad, c, h1, h2, h3.imp id (fun ⟨b, o, h4, h5, h6⟩ => ⟨b, o, h4, h5, fun k x hk => by rw [hb.cell h5]; exact h6 k x hk⟩)⟩
def InN (n : Int) : Prop := -2 ^ 63 ≤ n ∧ n < 2 ^ 63
structure JOp where
  k : Int
  s : Bs
  n : Int
  keep : List Int
structure OpCells (N : Nat) (w : World) (cs : List Value) (x : JOp) : Prop where
  row : ∃ vk, cs = [.int .i64 x.k, bsV x.s, .int .i64 x.n, vk] ∧ RowN intC N w vk x.keep
  kin : InN x.k
  nin : InN x.n
  kr : ∀ y ∈ x.keep, InN y
theorem OpCells.below {N : Nat} {w w' : World} {cs : List Value} {x : JOp} (h : OpCells N w cs x) (hb : Below N w w') : OpCells N w' cs x := by
  obtain ⟨vk, h1, h2⟩ := h.row
  exact ⟨⟨vk, h1, h2.below hb⟩, h.kin, h.nin, h.kr⟩
def OpRow (N : Nat) (w : World) (v : Value) (l : List JOp) : Prop :=
  ∃ ad c, v = .slice ad l.length c ∧ (l = [] ∨ ∃ b o, ad = some ⟨b, o, none⟩ ∧ b < N ∧ ∀ (i : Nat) (h : i < l.length), ∃ cs, OpCells N w cs l[i] ∧ cs.length = 4 ∧ ∀ j, j < 4 → w.cell? ⟨b, o + i * 4 + j, none⟩ = cs[j]?)
theorem OpRow.below {N : Nat} {w w' : World} {v : Value} {l : List JOp} (h : OpRow N w v l) (hb : Below N w w') : OpRow N w' v l := by
  obtain ⟨ad, c, h1, h2⟩ := h
  refine ⟨ad, c, h1, h2.imp id ?_⟩
  rintro ⟨b, o, h3, h4, h5⟩
  refine ⟨b, o, h3, h4, fun i hi => ?_⟩
  obtain ⟨cs, h6, h7, h8⟩ := h5 i hi
  exact ⟨cs, h6.below hb, h7, fun j hj => by rw [hb.cell h4]; exact h8 j hj⟩
theorem OpRow.at {N : Nat} {w : World} {v : Value} {l : List JOp} (h : OpRow N w v l) {i : Nat} (hi : i < l.length) : ∃ b o c vk, v = .slice (some ⟨b, o, none⟩) l.length c ∧ RowN intC N w vk l[i].keep ∧ OpCells N w [.int .i64 l[i].k, bsV l[i].s, .int .i64 l[i].n, vk] l[i] ∧
    w.cell? ⟨b, o + i * 4, none⟩ = some (.int .i64 l[i].k) ∧ w.cell? ⟨b, o + i * 4 + 1, none⟩ = some (bsV l[i].s) ∧ w.cell? ⟨b, o + i * 4 + 2, none⟩ = some (.int .i64 l[i].n) ∧ w.cell? ⟨b, o + i * 4 + 3, none⟩ = some vk := by
  obtain ⟨ad, c, rfl, h2⟩ := h
  rcases h2 with rfl | ⟨b, o, rfl, hb, hc⟩
  · simp at hi
  · obtain ⟨cs, h6, h7, h8⟩ := hc i hi
    obtain ⟨vk, rfl, hr⟩ := h6.row
    exact ⟨b, o, c, vk, rfl, hr, h6, h8 0 (by omega), h8 1 (by omega), h8 2 (by omega), h8 3 (by omega)⟩
theorem OpRow.len {N : Nat} {w : World} {v : Value} {l : List JOp} (h : OpRow N w v l) : ∃ a c, v = .slice a l.length c := by
  obtain ⟨ad, c, rfl, _⟩ := h; exact ⟨ad, c, rfl⟩
section
variable {w w1 : World} {K : Value → World → Prop}
end
end Go.Proofs
namespace Go.Proofs
open Go Go.Sh Go.RowKit CodeSpec JnSpec DkSpec
set_option linter.unusedSimpArgs false
set_option linter.unusedVariables false
set_option maxRecDepth 10000
def GJ (A : Ab) : Option Jn → List Bs → List Bs → Prop
  | some j, all, sure => LJ 3 A j all sure
  | none, all, sure => GoodJ 3 A all sure
theorem GJ.good {A : Ab} {jo : Option Jn} {all sure : List Bs} (g : GJ A jo all sure) : GoodJ 3 A all sure := by
  cases jo with
  | none => exact g
  | some j => exact LJ.good g
def JnV (w0 W : World) (Kp : Nat → Prop) (b : Nat) (h : Dk) (jv : Value) : Option Jn → Prop
  | none => jv = .pointer none
  | some j => ∃ p u, jv = jnP p ∧ IsJn W b h p 3 j u ∧ ∀ i, JO p u i → w0.heap.size ≤ i ∧ ¬ Kp i
structure LS (w0 W : World) (Kp : Nat → Prop) (b : Nat) (A : Ab) (h : Dk) (jo : Option Jn) (jv : Value) (all sure : List Bs) : Prop where
  s : Sys W b A h
  g : GJ A jo all sure
  jn : JnV w0 W Kp b h jv jo
  ow : ∀ i, Own b h i → w0.heap.size ≤ i
  bl : Below w0.heap.size w0 W
  kp : ∀ k, Kp k → k < W.heap.size ∧ ¬ Own b h k ∧ ¬ Rdb h k
section
variable {w0 W W' : World} {Kp Kp' : Nat → Prop} {b p : Nat} {A A' : Ab} {h h' : Dk} {jo : Option Jn} {j j' : Jn} {jv u u' : Value} {all sure all' sure' : List Bs} {K : Value → World → Prop}
theorem LS.grow (L : LS w0 W Kp b A h jo jv all sure) (hb : Below W.heap.size W W') (hk : ∀ k, Kp' k → Kp k ∨ (W.heap.size ≤ k ∧ k < W'.heap.size)) : LS w0 W' Kp' b A h jo jv all sure := by
  have hz := L.bl.size
  refine ⟨L.s.below hb, L.g, ?_, L.ow, L.bl.trans (hb.mono hz), fun k hkp => ?_⟩
  · have hj := L.jn
    cases jo with
    | none => exact hj
    | some j =>
      obtain ⟨p, u, e, jn, hjo⟩ := hj
      refine ⟨p, u, e, jn.below hb, fun i hi => ⟨(hjo i hi).1, fun hkp => ?_⟩⟩
      have hlt := jn.lt hi
      exact (hk i hkp).elim (hjo i hi).2 (fun e => by omega)
  · rcases hk k hkp with e | e
    · have := L.kp k e
      exact ⟨Nat.lt_of_lt_of_le this.1 hb.size, this.2⟩
    · exact ⟨e.2, fun ho => by have := L.s.d.lt (.inl ho); omega, fun ho => by have := L.s.d.lt (.inr ho); omega⟩
theorem LS.below (L : LS w0 W Kp b A h jo jv all sure) (hb : Below W.heap.size W W') : LS w0 W' Kp b A h jo jv all sure := L.grow hb (fun _ h => .inl h)
theorem LS.jour (L : LS w0 W Kp b A h (some j) jv all sure) (e : jv = jnP p) (hjo : ∀ i, JO p u i → w0.heap.size ≤ i ∧ ¬ Kp i) (s' : Sys W' b A' h') (jn' : IsJn W' b h' p 3 j' u') (t : JSt W b h p u W' h' u') (g' : LJ 3 A' j' all' sure') : LS w0 W' Kp b A' h' (some j') jv all' sure' ∧ ∀ k, Kp k → W'.heap[k]? = W.heap[k]? := by
  have hz := L.bl.size
  have hj1 : ∀ i, JO p u i → w0.heap.size ≤ i := fun i hi => (hjo i hi).1
  refine ⟨⟨s', g', ⟨p, u', e, jn', fun i hi => ?_⟩, fun i hi => ?_, L.bl.trans (below_of_jst t L.ow hj1 hz), fun k hk => ?_⟩, fun k hk => t.fr.block k (L.kp k hk).1 (fun ho => ho.elim (L.kp k hk).2.1 (fun hi => (hjo k hi).2 hk))⟩
  · exact (t.jo i hi).elim (hjo i) (fun e => ⟨by omega, fun hk => by have := (L.kp i hk).1; omega⟩)
  · exact (t.own i hi).elim (L.ow i) (fun e => by omega)
  · have := L.kp k hk
    exact ⟨Nat.lt_of_lt_of_le this.1 t.fr.size, fun ho => (t.own k ho).elim this.2.1 (fun e => by omega), fun ho => (t.rd k ho).elim this.2.2 (fun e => by omega)⟩
theorem LS.write (L : LS w0 W Kp b A h jo jv all sure) {S : Nat → Prop} (f : Fr S W W') (h6 : 6 ≤ w0.heap.size) (hS : ∀ i, S i → Kp i ∧ w0.heap.size ≤ i) : LS w0 W' Kp b A h jo jv all sure := by
  have hz := L.bl.size
  refine ⟨L.s.fresh f (fun i hi => ⟨fun ho => ho.elim (L.kp i (hS i hi).1).2.1 (L.kp i (hS i hi).1).2.2, by have := (hS i hi).2; omega⟩), L.g, ?_, L.ow, L.bl.trans ⟨f.os, f.tape, f.output, f.size, fun i hi => f.block i (by omega) (fun hs => by have := (hS i hs).2; omega)⟩, fun k hk => ⟨Nat.lt_of_lt_of_le (L.kp k hk).1 f.size, (L.kp k hk).2⟩⟩
  have hj := L.jn
  cases jo with
  | none => exact hj
  | some j =>
    obtain ⟨p, u, e, jn, hjo⟩ := hj
    exact ⟨p, u, e, jn.keep f (fun i hi hji => (hjo i hji).2 (hS i hi).1) (fun i hi => hi.elim .inl (fun h => .inr (.inl h))), hjo⟩
def Kp2 (Kp : Nat → Prop) (v : Value) : Nat → Prop := fun k => Kp k ∨ v.ownBlock = some k
theorem LS.row (L : LS w0 W Kp b A h jo jv all sure) (hb : Below W.heap.size W W') {n : Nat} {xs : List Value} {T : TypeId} {v : Value} (r : W'.ownsRow W.heap.size T 1 v n xs) : LS w0 W' (Kp2 Kp v) b A h jo jv all sure :=
  L.grow hb (fun k hk => hk.imp id (fun e => ⟨(owns_own r e).2.1, (owns_own r e).1⟩))
end
end Go.Proofs
namespace Go.Proofs
open Go Go.Sh Go.RowKit CodeSpec JnSpec DkSpec
set_option linter.unusedSimpArgs false
set_option linter.unusedVariables false
set_option maxRecDepth 10000
structure RS (w0 W : World) (Kp : Nat → Prop) (b : Nat) (A : Ab) (h : Dk) (p : Nat) (j : Jn) (u : Value) (all sure : List Bs) : Prop where
  s : Sys W b A h
  up : Upp A
  lv : Live 2 A j all sure
  nb : j.broken = false
  jn : IsJn W b h p 2 j u
  jo : ∀ i, JO p u i → w0.heap.size ≤ i ∧ ¬ Kp i
  ow : ∀ i, Own b h i → w0.heap.size ≤ i
  bl : Below w0.heap.size w0 W
  kp : ∀ k, Kp k → k < W.heap.size ∧ ¬ Own b h k
section
variable {w0 W W' : World} {Kp Kp' : Nat → Prop} {b p : Nat} {A A' : Ab} {h h' : Dk} {j j' : Jn} {u u' : Value} {all sure all' sure' : List Bs} {K F : Value → World → Prop}
theorem RS.grow (R : RS w0 W Kp b A h p j u all sure) (hb : Below W.heap.size W W') (hk : ∀ k, Kp' k → Kp k ∨ (W.heap.size ≤ k ∧ k < W'.heap.size)) : RS w0 W' Kp' b A h p j u all sure := by
  have hz := R.bl.size
  refine ⟨R.s.below hb, R.up, R.lv, R.nb, R.jn.below hb, fun i hi => ⟨(R.jo i hi).1, fun hkp => ?_⟩, R.ow, R.bl.trans (hb.mono hz), fun k hkp => ?_⟩
  · have hlt := R.jn.lt hi
    exact (hk i hkp).elim (R.jo i hi).2 (fun e => by omega)
  · rcases hk k hkp with e | e
    · have := R.kp k e
      exact ⟨Nat.lt_of_lt_of_le this.1 hb.size, this.2⟩
    · exact ⟨e.2, fun ho => by have := R.s.d.lt (.inl ho); omega⟩
theorem RS.below (R : RS w0 W Kp b A h p j u all sure) (hb : Below W.heap.size W W') : RS w0 W' Kp b A h p j u all sure := R.grow hb (fun _ h => .inl h)
theorem RS.jour (R : RS w0 W Kp b A h p j u all sure) (s' : Sys W' b A' h') (jn' : IsJn W' b h' p 2 j' u') (t : JSt W b h p u W' h' u') (up' : Upp A') (lv' : Live 2 A' j' all' sure') (nb' : j'.broken = false) : RS w0 W' Kp b A' h' p j' u' all' sure' ∧ (∀ k, Kp k → W'.heap[k]? = W.heap[k]?) ∧ Below w0.heap.size W W' := by
  have hz := R.bl.size
  have hj1 : ∀ i, JO p u i → w0.heap.size ≤ i := fun i hi => (R.jo i hi).1
  have hbl := below_of_jst t R.ow hj1 hz
  refine ⟨⟨s', up', lv', nb', jn', fun i hi => ?_, fun i hi => ?_, R.bl.trans hbl, fun k hk => ?_⟩, fun k hk => t.fr.block k (R.kp k hk).1 (fun ho => ho.elim (R.kp k hk).2 (fun hi => (R.jo k hi).2 hk)), hbl⟩
  · exact (t.jo i hi).elim (R.jo i) (fun e => ⟨by omega, fun hk => by have := (R.kp i hk).1; omega⟩)
  · exact (t.own i hi).elim (R.ow i) (fun e => by omega)
  · have := R.kp k hk
    exact ⟨Nat.lt_of_lt_of_le this.1 t.fr.size, fun ho => (t.own k ho).elim this.2 (fun e => by omega)⟩
theorem RS.append (R : RS w0 W Kp b A h p j u all sure) (t : Bs) (ht : t.length ≤ 20000) (hn : j.recs.length ≤ 48)
    (k : ∀ W' A' h' j' u', RS w0 W' Kp b A' h' p j' u' (all ++ [t]) sure → j'.recs = j.recs ++ [t] → (∀ k, Kp k → W'.heap[k]? = W.heap[k]?) → Below w0.heap.size W W' → K (.int .i64 0) W') : callM Tryd.prog 50 #[jnP p, .string ⟨t.toArray⟩] K W := by
  have hb := R.lv.bytes_le hn
  have hf := form_len (s := t) (by omega)
  obtain ⟨B, e, uB, lB⟩ := R.up.add_rec R.lv (by omega) R.nb ht (by omega)
  refine append_ok R.s R.jn (by omega) t (by omega) (fun W' h' u' s' jn' t' => ?_)
  rw [e] at s' jn' ⊢
  obtain ⟨R', hk', hb'⟩ := R.jour s' jn' t' uB lB rfl
  exact k W' B h' _ u' R' rfl hk' hb'
theorem RS.sync (R : RS w0 W Kp b A h p j u all sure)
    (k : ∀ W' A' h', RS w0 W' Kp b A' h' p j u all j.recs → (∀ k, Kp k → W'.heap[k]? = W.heap[k]?) → Below w0.heap.size W W' → K (.int .i64 0) W') : callM Tryd.prog 61 #[jnP p] K W := by
  obtain ⟨B, e, uB, lB⟩ := R.up.sync_rec R.lv (by omega) R.nb
  refine syncJ_ok R.s R.jn (fun W' h' s' jn' t' => ?_)
  rw [e] at s' jn' ⊢
  obtain ⟨R', hk', hb'⟩ := R.jour s' jn' t' uB lB R.nb
  exact k W' B h' R' hk' hb'
theorem RS.again (R : RS w0 W Kp b A h p j u all sure) {kv : Value} {keep : List Int} (hr : RowN intC w0.heap.size W kv keep) (hkl : keep.length ≤ 50)
    (k : ∀ W' A' h' p' j' u', RS w0 W' Kp b A' h' p' j' u' j'.recs j'.recs → j'.recs <+: all → sure <+: j'.recs → (∀ k, Kp k → W'.heap[k]? = W.heap[k]?) → Below w0.heap.size W W' → F (.tuple #[jnP p', .int .i64 0]) W') :
    callM Tryd.prog 62 #[dkP b, kv] (fun _ w => callM Tryd.prog 63 #[dkP b] (fun _ w => callM Tryd.prog 49 #[dkP b, .int .i64 2] F w) w) W := by
  have hz := R.bl.size
  refine crash_ok R.s.d (hr.row hz) (by omega) (fun W1 f1 => (hr.below ⟨f1.os, f1.tape, f1.output, f1.size, fun i hi => f1.block i (by omega) (fun ho => by have := R.ow i ho; omega)⟩).row (Nat.le_trans hz f1.size)) (fun W1 h1 d1 t1 => ?_)
  have s1 := R.s.step d1 t1
  refine start_ok s1.d (fun W2 d2 t2 => ?_)
  have s2 := s1.step d2 t2
  obtain ⟨B, j', e, uB, lB, nb, p1, p2⟩ := R.up.again R.lv.good (by omega) keep
  refine openJ_ok s2 2 (fun W3 h3 r s3 t3 o3 => ?_)
  rw [e] at s3 o3 ⊢
  obtain ⟨p', u', rfl, jn3, hj3⟩ := o3
  have t13 := (t1.trans t2).trans t3
  have hbl := below_of_step t13 R.ow hz
  have hz1 := (t1.trans t2).fr.size
  refine k W3 B h3 p' j' u' ⟨s3, uB, lB, nb, jn3, fun i hi => ?_, own_step t13 R.ow hz, R.bl.trans hbl, fun k hk => ?_⟩ p1 p2 (fun k hk => t13.fr.block k (R.kp k hk).1 (R.kp k hk).2) hbl
  · have := hj3 i hi
    exact ⟨by omega, fun hk => by have := (R.kp i hk).1; omega⟩
  · have := R.kp k hk
    exact ⟨Nat.lt_of_lt_of_le this.1 t13.fr.size, fun ho => (t13.own k ho).elim this.2 (fun e => by omega)⟩
end
end Go.Proofs
namespace Go.Sh
open Go Go.RowKit
section
variable {P : Program} {w w' : World} {K : Value → World → Prop}
theorem owns_up {B C : Nat} {e : TypeId} {sz : Nat} {v : Value} {n : Nat} {xs : List Value} (h : w.ownsRow B e sz v n xs) (hv : ∀ i, v.ownBlock = some i → C ≤ i) : w.ownsRow C e sz v n xs :=
  ⟨h.1, h.2.imp id (fun ⟨g, cap, cur, a, b, r⟩ => ⟨g, cap, cur, a, hv g (by rw [a]; rfl), r⟩)⟩
theorem append_zero (t T e : TypeId) (i : TypeInfo) (z : Value) (size bytes : Nat) (ht : P.underlying t = some (.slice e)) (hi : P.info? e = some i) (hz : i.zero = some z)
    (hsize : i.size = size) (hby : i.bytes = bytes) (hzs : z.cells.size = size) (hsz : 0 < size)
    {B g : Nat} (hB : B ≤ w.heap.size) (hown : w.ownsRow B e size (.slice (some ⟨g, 0, none⟩) 0 0) 0 [])
    {ad : Option Addr} {m c : Nat} (news : List Value) (hl : news.length = m * size) (had : ad = none → m = 0 ∧ c = 0) (hnews : ∀ a, ad = some a → ∀ j u, news[j]? = some u → w.cell? (a.add j) = some u) (h1 : ∀ u ∈ news, u.oneCell' = true)
    (h63 : m ≤ maxLen) (hbytes : m * bytes ≤ 140737488355328)
    (k : ∀ v' w', w'.ownsRow B e size v' m news → Below w.heap.size w w' → (∀ i, v'.ownBlock = some i → i = g ∨ w.heap.size ≤ i) → K v' w') :
    oM P (.call { callee := .builtin .append, args := #[.tmp 0, .tmp 1], argTypes := #[t, t] }) T [.slice (some ⟨g, 0, none⟩) 0 0, .slice ad m c] K w := by
  rw [oM_append]
  cases ad with
  | none =>
    obtain ⟨rfl, rfl⟩ := had rfl
    have hn : news = [] := List.eq_nil_of_length_eq_zero (by simpa using hl)
    subst hn
    rw [run_append_owned_none (P := P) (w := w) B t T e i size ht hi _ 0 [] hown]
    exact k _ w hown (Below.refl _ _) (fun i h => by cases h; exact .inl rfl)
  | some a =>
    have hown0 := owns_base hown (Nat.zero_le _)
    obtain ⟨v', w', hr, h2, h3, h4⟩ := run_append_more (P := P) (w := w) t T e i z size bytes ht hi hz hsize hby hzs hsz _ 0 [] hown0 a m c news hl (hnews a rfl) h1 (by rw [Nat.zero_add]; exact h63) (by rw [Nat.zero_add]; exact hbytes)
    rw [Nat.zero_add, List.nil_append] at h2
    rw [hr]
    subst hsize
    by_cases hm : m = 0
    · subst hm
      have hn : news = [] := List.eq_nil_of_length_eq_zero (by simpa using hl)
      subst hn
      have e1 : (Builtin.append_ #[t, t] T #[.slice (some ⟨g, 0, none⟩) 0 0, .slice (some a) 0 c]).run P w = .ok (.slice (some ⟨g, 0, none⟩) 0 0) w := by
        simp [Builtin.append_, run_underlying ht, sizeOf, typeInfo, hi, Builtin.lenOf, storeCells, Builtin.firstCells, go_sem]
      rw [e1] at hr
      cases hr
      exact k _ w hown (Below.refl _ _) (fun i h => by cases h; exact .inl rfl)
    · have hr2 := run_append_grow (P := P) (w := w) t T e i z ht hi hz ⟨g, 0, none⟩ 0 0 [] (by simp) (by simp) a m c news hl (hnews a rfl) (by omega) (by simp only [maxLen] at h63; omega) (growslice_fits (by omega) (by rw [hby, Nat.zero_add]; exact hbytes))
      rw [hr] at hr2
      cases hr2
      refine k _ _ (owns_up h2 (fun i h => by cases h; exact hB)) ?_ (fun i h => by cases h; exact .inr (Nat.le_refl _))
      exact ((Below.refl w.heap.size w).drew).alloc (Nat.le_refl _) _
end
end Go.Sh
namespace Go.Proofs
open Go Go.Sh Go.RowKit CodeSpec JnSpec DkSpec
set_option linter.unusedSimpArgs false
set_option linter.unusedVariables false
set_option maxRecDepth 10000
open Cd (Val ValCells)
def RowC (w0 W : World) (v : Value) (l : List Val) : Prop :=
  ∃ ad c, ∃ mk : Nat → List Value, v = .slice ad l.length c ∧ l.length ≤ c ∧ (∀ i, (mk i).length = 5) ∧ (∀ i (h : i < l.length), ValCells w0 (mk i) l[i]) ∧ (ad = none → l.length = 0 ∧ c = 0) ∧
    (0 < l.length → ∃ b o, ad = some ⟨b, o, none⟩ ∧ ∀ k x, (flat mk (List.range l.length))[k]? = some x → W.cell? ⟨b, o + k, none⟩ = some x)
def ArgC (w0 : World) (v : Value) (l : List Val) : Prop :=
  ∃ ad c, ∃ mk : Nat → List Value, v = .slice ad l.length c ∧ l.length ≤ c ∧ (∀ i, (mk i).length = 5) ∧ (∀ i (h : i < l.length), ValCells w0 (mk i) l[i]) ∧ (ad = none → l.length = 0 ∧ c = 0) ∧
    (0 < l.length → ∃ b o, ad = some ⟨b, o, none⟩ ∧ b < w0.heap.size ∧ ∀ k x, (flat mk (List.range l.length))[k]? = some x → w0.cell? ⟨b, o + k, none⟩ = some x)
section
variable {w w0 W W' : World} {v v' : Value} {l m : List Val} {K : Value → World → Prop}
theorem ArgC.at (h : ArgC w0 v l) (hb : Below w0.heap.size w0 W) : RowC w0 W v l := by
  obtain ⟨ad, c, mk, h1, h2, h3, h4, h5, h6⟩ := h
  refine ⟨ad, c, mk, h1, h2, h3, h4, h5, fun h0 => ?_⟩
  obtain ⟨b, o, e, hbl, hc⟩ := h6 h0
  exact ⟨b, o, e, fun k x hx => by rw [hb.cell hbl]; exact hc k x hx⟩
theorem ArgC.up (h : ArgC w0 v l) (hb : Below w0.heap.size w0 W) : ArgC W v l := by
  obtain ⟨ad, c, mk, h1, h2, h3, h4, h5, h6⟩ := h
  refine ⟨ad, c, mk, h1, h2, h3, fun i hi => (h4 i hi).below hb, h5, fun h0 => ?_⟩
  obtain ⟨b, o, e, hbl, hc⟩ := h6 h0
  exact ⟨b, o, e, Nat.lt_of_lt_of_le hbl hb.size, fun k x hx => by rw [hb.cell hbl]; exact hc k x hx⟩
theorem flat_range {mk : Nat → List Value} (h3 : ∀ i, (mk i).length = 5) {n i j : Nat} (hi : i < n) (hj : j < 5) : (flat mk (List.range n))[5 * i + j]? = (mk i)[j]? := by
  have := flat_at h3 (List.range n) i j (x := i) (by rw [List.getElem?_range hi]) hj
  rw [Nat.mul_comm] at this; exact this
theorem RowC.elem (h : RowC w0 W v l) {i : Nat} (hi : i < l.length) : ∃ b o c cs, v = .slice (some ⟨b, o, none⟩) l.length c ∧ ValCells w0 cs l[i] ∧ cs.length = 5 ∧ ∀ j, j < 5 → W.cell? ⟨b, o + 5 * i + j, none⟩ = cs[j]? := by
  obtain ⟨ad, c, mk, h1, h2, h3, h4, h5, h6⟩ := h
  obtain ⟨b, o, rfl, hc⟩ := h6 (by omega)
  refine ⟨b, o, c, mk i, h1, h4 i hi, h3 i, fun j hj => ?_⟩
  have hf := flat_range h3 (n := l.length) hi hj
  have hjl : j < (mk i).length := by rw [h3]; exact hj
  rw [List.getElem?_eq_getElem hjl] at hf ⊢
  rw [Nat.add_assoc]
  exact hc _ _ hf
theorem RowC.len (h : RowC w0 W v l) : ∃ a c, v = .slice a l.length c ∧ l.length ≤ c := by
  obtain ⟨ad, c, mk, h1, h2, _⟩ := h; exact ⟨ad, c, h1, h2⟩
theorem cells_one {w : World} {cs : List Value} {x : Val} (h : ValCells w cs x) : ∀ u ∈ cs, u.oneCell' = true := by
  obtain ⟨vl, vt, rfl, ⟨_, _, rfl, _⟩, ⟨_, _, rfl, _⟩⟩ := h.row
  intro u hu
  simp only [List.mem_cons, List.not_mem_nil, or_false] at hu
  rcases hu with rfl | rfl | rfl | rfl | rfl <;> rfl
theorem RowC.take (h : RowC w0 W v l) (n : Nat) (hn : n ≤ l.length) : ∃ a c, v = .slice a l.length c ∧ n ≤ c ∧ RowC w0 W (.slice a n c) (l.take n) := by
  obtain ⟨ad, c, mk, h1, h2, h3, h4, h5, h6⟩ := h
  have hl : (l.take n).length = n := by rw [List.length_take]; omega
  refine ⟨ad, c, h1, by omega, ad, c, mk, by rw [hl], by omega, h3, fun i hi => ?_, fun e => by have := h5 e; omega, fun h0 => ?_⟩
  · rw [hl] at hi
    rw [List.getElem_take]; exact h4 i (by omega)
  · rw [hl] at h0 ⊢
    obtain ⟨b, o, e, hc⟩ := h6 (by omega)
    refine ⟨b, o, e, fun k x hx => hc k x ?_⟩
    have ht := flat_take h3 (List.range l.length) n
    have hr : (List.range l.length).take n = List.range n := by
      rw [List.take_range]; congr 1; omega
    rw [hr] at ht
    rw [← ht] at hx
    have hlt := (List.getElem?_eq_some_iff.1 hx).1
    rw [List.length_take] at hlt
    rw [List.getElem?_take_of_lt (by omega)] at hx
    exact hx
theorem RowC.news (h : RowC w0 W v l) : ∃ ad c, ∃ mk : Nat → List Value, v = .slice ad l.length c ∧ (∀ i, (mk i).length = 5) ∧ (∀ i (h : i < l.length), ValCells w0 (mk i) l[i]) ∧ (flat mk (List.range l.length)).length = l.length * 5 ∧ (ad = none → l.length = 0 ∧ c = 0) ∧
    (∀ a, ad = some a → ∀ j u, (flat mk (List.range l.length))[j]? = some u → W.cell? (a.add j) = some u) ∧ ∀ u ∈ flat mk (List.range l.length), u.oneCell' = true := by
  obtain ⟨ad, c, mk, h1, h2, h3, h4, h5, h6⟩ := h
  refine ⟨ad, c, mk, h1, h3, h4, by rw [flat_length h3, List.length_range], h5, fun a ha j u hu => ?_, fun u hu => ?_⟩
  · have hlt := (List.getElem?_eq_some_iff.1 hu).1
    rw [flat_length h3, List.length_range] at hlt
    obtain ⟨b, o, e, hc⟩ := h6 (by omega)
    rw [ha] at e
    cases e
    rw [Cd.addr_add]
    exact hc j u hu
  · obtain ⟨i, hi, hu⟩ := List.mem_flatMap.1 hu
    rw [List.mem_range] at hi
    exact cells_one (h4 i hi) u hu
theorem flat_congr {α : Type} {f g : α → List Value} {l : List α} (h : ∀ x ∈ l, f x = g x) : flat f l = flat g l := by
  induction l with
  | nil => rfl
  | cons x l ih => rw [flat_cons, flat_cons, h x (by simp), ih (fun y hy => h y (by simp [hy]))]
theorem flat_map {α β : Type} {f : β → List Value} {g : α → β} {l : List α} : flat f (l.map g) = flat (fun x => f (g x)) l := by
  induction l with
  | nil => rfl
  | cons x l ih => rw [List.map_cons, flat_cons, flat_cons, ih]
end
end Go.Proofs
namespace Go.Proofs
open Go Go.Sh Go.RowKit CodeSpec JnSpec DkSpec
set_option linter.unusedSimpArgs false
set_option linter.unusedVariables false
set_option maxRecDepth 10000
open Cd (Val ValCells encV FewT)
section
variable {w w0 W W' : World} {Kp Kp' : Nat → Prop} {b p : Nat} {A A' : Ab} {h h' : Dk} {j j' : Jn} {u u' : Value} {all sure all' sure' : List Bs} {K F : Value → World → Prop} {v : Value} {l m : List Val}
theorem few_mem (hf : FewT l) {i : Nat} (hi : i < l.length) {cs : List Value} (hc : ValCells w cs l[i]) : Cd.ValFit l[i] ∧ (encV l[i]).length ≤ 20000 := by
  have hm : l[i] ∈ l := List.getElem_mem hi
  have h1 := hf.1.2 _ hm
  have h2 := Cd.sizeL_mem hm
  exact ⟨(Cd.few_fit _ h1 hc.nin hc.lin).1, Cd.enc_small _ h1 (Nat.le_trans h2 hf.2) hc.nin hc.lin⟩
theorem RS.app_val (R : RS w0 W Kp b A h p j u all sure) (hr : RowC w0 W v l) (hf : FewT l) {i : Nat} (hi : i < l.length) (hn : j.recs.length ≤ 48)
    (k : ∀ W' A' h' j' u', RS w0 W' Kp b A' h' p j' u' (all ++ [encV l[i]]) sure → j'.recs = j.recs ++ [encV l[i]] → (∀ k, Kp k → W'.heap[k]? = W.heap[k]?) → Below w0.heap.size W W' → F (.int .i64 0) W') :
    oM Tryd.prog (.indexAddr 28 (.tmp 0) (.tmp 1)) 0 [v, .int .i64 (i : Int)] (fun v74 w => oM Tryd.prog (.load 25 (.tmp 0)) 25 [v74] (fun v75 w => callM Tryd.prog 32 #[v75] (fun v76 w => callM Tryd.prog 50 #[jnP p, v76] F w) w) w) W := by
  obtain ⟨bb, o, c, cs, rfl, hvc, hcl, hcell⟩ := hr.elem hi
  have hix := Cd.idx28 (b := bb) (o := o) (c := c) hi W
  have hld := Cd.load25 (w := W) (b := bb) (o := o + 5 * i) hcl hcell
  obtain ⟨hfit, hlen⟩ := few_mem hf hi hvc
  rw [oM_indexAddr, hix, rM_ok, oM_load, hld, rM_ok]
  refine Cd.write_ok l[i] cs R.s.l (hvc.below R.bl) hfit (fun W1 b1 => ?_)
  have R1 := R.below b1
  refine R1.append (encV l[i]) hlen hn (fun W2 A2 h2 j2 u2 R2 hj2 hk2 hb2 => ?_)
  exact k W2 A2 h2 j2 u2 R2 hj2 (fun k hk => (hk2 k hk).trans (b1.block k (R.kp k hk).1)) ((b1.mono R.bl.size).trans hb2)
def encL (l : List Val) : List Bs := l.map encV
theorem encL_snoc {i : Nat} (hi : i < l.length) : encL (l.take i) ++ [encV l[i]] = encL (l.take (i + 1)) := by
  unfold encL
  rw [List.take_succ_eq_append_getElem hi, List.map_append]; rfl
theorem encL_len : (encL l).length = l.length := by simp [encL]
def NoK : Nat → Prop := fun _ => False
def sureN (l : List Val) (n i : Nat) : List Bs := if n < i then encL (l.take n) else []
theorem turn1_ok {a0 x0 : Value} {n i : Nat} {l27 : List Value} {M : List Value → World → Prop} (R : RS w0 W NoK b A h p j u (encL (l.take i)) (sureN l n i)) (hr : RowC w0 W a0 l) (hrr : ∀ W', Below w0.heap.size W W' → RowC w0 W' a0 l) (hf : FewT l) (hi : i ≤ l.length) (hiv : l27.getD 1 undef = .int .i64 (i : Int)) (hn : n ≤ l.length)
    (hM : ∀ x W' A' h' j' u', RS w0 W' NoK b A' h' p j' u' (encL (l.take (i + 1))) (sureN l n (i + 1)) → Below w0.heap.size W W' → M [x] W') :
    joinM (fun M_32 => (pre_10_32 K l27 (jnP p) (.int .i64 (n : Int)) M_32 W)) (fun l_33 u_l_33 w => (post_10_32 K M a0 l27 (jnP p) l_33 w)) := by
  have hl20 := hf.1.1
  have hrec := R.lv.recs
  refine ⟨fun vs W1 => ∃ A1 h1 j1 u1, RS w0 W1 NoK b A1 h1 p j1 u1 (encL (l.take i)) (sureN l n (i + 1)) ∧ Below w0.heap.size W W1, ?_, ?_⟩
  · unfold pre_10_32
    rw [hiv]
    by_cases he : i = n
    · subst he
      repeat (any_goals (first
      | (with_reducible ((refine idCond ?_); refine yL ?_))
      | ((with_reducible refine idO ?_); (with_reducible refine oM_gen fun Kv hK=>?_); simp [go_sem]; refine hK _ _ ?_; clear hK; clear Kv)))
      refine R.sync (fun W1 A1 h1 R1 _ hb1 => ?_)
      repeat (any_goals (first
      | (with_reducible ((refine idCond ?_); refine yM ?_))
      | ((with_reducible refine idO ?_); (with_reducible refine oM_gen fun Kv hK=>?_); simp [go_sem]; refine hK _ _ ?_; clear hK; clear Kv)))
      have e : sureN l i (i + 1) = j.recs := by unfold sureN; rw [if_pos (by omega)]; exact hrec
      rw [e]
      exact ⟨A1, h1, j, u, R1, hb1⟩
    · repeat (any_goals (first
      | (with_reducible ((refine idCond ?_); refine yO ?_))
      | ((with_reducible refine idO ?_); (with_reducible refine oM_gen fun Kv hK=>?_); simp [go_sem]; refine hK _ _ ?_; clear hK; clear Kv)))
      have e : sureN l n (i + 1) = sureN l n i := by unfold sureN; split <;> split <;> first | rfl | omega
      rw [e]
      exact ⟨A, h, j, u, R, Below.refl _ _⟩
  · rintro l33 _ W1 ⟨A1, h1, j1, u1, R1, hb1⟩
    unfold post_10_32
    rw [hiv]
    have hr1 := hrr W1 hb1
    obtain ⟨va, vc, rfl, _⟩ := hr1.len
    by_cases hlt : i < l.length
    · have hj1 : j1.recs.length ≤ 48 := by
        rw [← R1.lv.recs, encL_len, List.length_take]; omega
      have := R1.app_val (F := fun v77_42 w => oM Tryd.prog (.binOp .neq 54 (.tmp 0) (.const (.int .i64 0)) 54) 4 [v77_42] (fun v78_43 w => condM v78_43 (K (.bool false) w) (M [(l33.getD 0 undef)] w)) w) hr1 hf hlt hj1 (fun W2 A2 h2 j2 u2 R2 _ _ hb2 => by
        repeat (any_goals (first
        | (with_reducible ((refine idCond ?_); refine yM ?_))
        | ((with_reducible refine idO ?_); (with_reducible refine oM_gen fun Kv hK=>?_); simp [go_sem]; refine hK _ _ ?_; clear hK; clear Kv)))
        rw [encL_snoc hlt] at R2
        exact hM _ W2 A2 h2 j2 u2 R2 (hb1.trans hb2))
      repeat (any_goals (first
      | (with_reducible ((refine idCond ?_); refine yN ?_))
      | ((with_reducible refine idO ?_); (with_reducible refine oM_gen fun Kv hK=>?_); simp [go_sem]; refine hK _ _ ?_; clear hK; clear Kv)))
      exact this
    · have hil : i = l.length := by omega
      have e : encL (l.take (i + 1)) = encL (l.take i) := by rw [hil, List.take_length, List.take_of_length_le (by omega)]
      rw [← e] at R1
      repeat (any_goals (first
      | (with_reducible ((refine idCond ?_); refine yO ?_))
      | ((with_reducible refine idO ?_); (with_reducible refine oM_gen fun Kv hK=>?_); simp [go_sem]; refine hK _ _ ?_; clear hK; clear Kv)))
      exact hM _ W1 A1 h1 j1 u1 R1 hb1
end
end Go.Proofs
namespace Go.Proofs
open Go Go.Sh Go.RowKit CodeSpec JnSpec DkSpec
set_option linter.unusedSimpArgs false
set_option linter.unusedVariables false
set_option maxRecDepth 10000
open Cd (Val ValCells encV FewT)
def OwnC (B : Nat) (w0 W : World) (v : Value) (l : List Val) : Prop :=
  ∃ mk : Nat → List Value, (∀ i, (mk i).length = 5) ∧ (∀ i (h : i < l.length), ValCells w0 (mk i) l[i]) ∧ W.ownsRow B 25 5 v l.length (flat mk (List.range l.length))
section
variable {w w0 W W' : World} {Kp Kp' : Nat → Prop} {b p B : Nat} {A A' : Ab} {h h' : Dk} {j j' : Jn} {u u' : Value} {all sure all' sure' : List Bs} {K F : Value → World → Prop} {v : Value} {l m : List Val}
theorem OwnC.keep (o : OwnC B w0 W v l) (hk : ∀ i, v.ownBlock = some i → W'.heap[i]? = W.heap[i]?) : OwnC B w0 W' v l := by
  obtain ⟨mk, h3, h4, ho⟩ := o
  exact ⟨mk, h3, h4, owns_keep ho hk⟩
theorem OwnC.own (o : OwnC B w0 W v l) {i : Nat} (hi : v.ownBlock = some i) : B ≤ i ∧ i < W.heap.size := by
  obtain ⟨mk, h3, h4, ho⟩ := o
  have := owns_own ho hi
  exact ⟨this.2.1, this.1⟩
theorem OwnC.row (o : OwnC B w0 W v l) : RowC w0 W v l := by
  obtain ⟨mk, h3, h4, ho⟩ := o
  rcases id ho.2 with ⟨rfl, h0⟩ | ⟨g, cap, cur, rfl, hb, hg, hc, hm, hs, ht⟩
  · exact ⟨none, 0, mk, by rw [h0], by omega, h3, h4, fun _ => ⟨by omega, rfl⟩, fun h => by omega⟩
  · refine ⟨some ⟨g, 0, none⟩, cap, mk, rfl, hc, h3, h4, (fun e => by cases e), fun h0 => ⟨g, 0, rfl, fun k x hx => ?_⟩⟩
    obtain ⟨g', cap', cur', e, _, _, _, _, _, hcell⟩ := owns_cells ho h0
    cases e
    rw [Nat.zero_add]
    exact hcell k x hx
theorem joinO {mk1 mk2 : Nat → List Value} (h31 : ∀ i, (mk1 i).length = 5) (h41 : ∀ i (h : i < l.length), ValCells w0 (mk1 i) l[i]) (h32 : ∀ i, (mk2 i).length = 5) (h42 : ∀ i (h : i < m.length), ValCells w0 (mk2 i) m[i])
    (ho : W.ownsRow B 25 5 v (l.length + m.length) (flat mk1 (List.range l.length) ++ flat mk2 (List.range m.length))) : OwnC B w0 W v (l ++ m) := by
  have hl : (l ++ m).length = l.length + m.length := List.length_append
  obtain ⟨mk, hmk⟩ : ∃ mk : Nat → List Value, mk = fun i => if i < l.length then mk1 i else mk2 (i - l.length) := ⟨_, rfl⟩
  have h3 : ∀ i, (mk i).length = 5 := fun i => by rw [hmk]; dsimp only; split; exact h31 _; exact h32 _
  have hfl : flat mk (List.range (l ++ m).length) = flat mk1 (List.range l.length) ++ flat mk2 (List.range m.length) := by
    rw [hl, List.range_add, flat_append]
    congr 1
    · refine flat_congr (fun i hi => ?_)
      rw [List.mem_range] at hi
      rw [hmk]; dsimp only; rw [if_pos hi]
    · rw [flat_map]
      refine flat_congr (fun i hi => ?_)
      rw [hmk]; dsimp only; rw [if_neg (by omega)]
      congr 1; omega
  have h4 : ∀ i (h : i < (l ++ m).length), ValCells w0 (mk i) (l ++ m)[i] := fun i hi => by
    rw [hmk]; dsimp only
    by_cases h : i < l.length
    · rw [if_pos h, List.getElem_append_left h]; exact h41 i h
    · rw [if_neg h, List.getElem_append_right (by omega)]; exact h42 _ (by omega)
  refine ⟨mk, h3, h4, ?_⟩
  rw [hfl, hl]; exact ho
theorem build_ok {a0 a3 : Value} (hr : RowC w0 W a0 l) {n : Nat} (hn : n ≤ l.length) (hl : l.length ≤ 20) (hm : RowC w0 W a3 m) (hml : m.length ≤ 20) (hm3 : ∀ W', Below W.heap.size W W' → RowC w0 W' a3 m)
    (hr3 : ∀ W', Below W.heap.size W W' → RowC w0 W' a0 l)
    (k : ∀ v W', OwnC W.heap.size w0 W' v (l.take n ++ m) → Below W.heap.size W W' → F v W') :
    oM Tryd.prog (.slice 28 (.tmp 0) none (some (.tmp 1)) none) 28 [a0, .int .i64 (n : Int)] (fun v109 w =>
      oM Tryd.prog (.call (Go.Call.mk (.builtin .append) #[(.tmp 0), (.tmp 1)] #[28, 28])) 28 [.slice (some ⟨W.heap.size, 0, none⟩) 0 0, v109] (fun v110 w =>
      oM Tryd.prog (.call (Go.Call.mk (.builtin .append) #[(.tmp 0), (.tmp 1)] #[28, 28])) 28 [v110, a3] F w) w) (W.alloc (.cells #[] 25)) := by
  have hb1 : Below W.heap.size W (W.alloc (.cells #[] 25)) := (Below.refl _ _).alloc (Nat.le_refl _) _
  have hn1 := heap_alloc_new W (.cells #[] 25)
  have ho1 : (W.alloc (.cells #[] 25)).ownsRow W.heap.size 25 5 (.slice (some ⟨W.heap.size, 0, none⟩) 0 0) 0 [] := ⟨rfl, .inr ⟨W.heap.size, 0, #[], rfl, Nat.le_refl _, hn1, Nat.le_refl _, by unfold maxLen; omega, rfl, rfl⟩⟩
  generalize W.alloc (.cells #[] 25) = W1 at *
  obtain ⟨ad, c, rfl, hnc, hrt⟩ := (hr3 W1 hb1).take n hn
  refine sliceTo_at (sz := 5) (by kernel_rfl) (fun w => by kernel_rfl) n hnc ?_
  have htl : (l.take n).length = n := by rw [List.length_take]; omega
  obtain ⟨ad1, c1, mk1, e1, h31, h41, hl1, had1, hn1', ho1'⟩ := hrt.news
  obtain ⟨rfl, _, rfl⟩ := Value.slice.inj e1
  rw [htl] at hl1 had1 hn1' ho1'
  have hz1 := hb1.size
  refine append_zero 28 28 25 Tryd.t25 (.agg #[.int .i64 0, .int .i64 0, .string ⟨#[]⟩, .slice none 0 0, .slice none 0 0]) 5 80 Tryd.underlying28 (by kernel_rfl) (by kernel_rfl) (by kernel_rfl) (by kernel_rfl) rfl (by omega) hz1 ho1 (flat mk1 (List.range n)) hl1 had1 hn1' ho1' (by unfold maxLen; omega) (by omega) (fun v2 W2 ho2 hb2 hv2 => ?_)
  have hb12 := hb1.trans (hb2.mono hz1)
  obtain ⟨ad2, c2, mk2, rfl, h32, h42, hl2, had2, hn2, ho2'⟩ := (hm3 W2 hb12).news
  refine append_at 28 28 25 Tryd.t25 (.agg #[.int .i64 0, .int .i64 0, .string ⟨#[]⟩, .slice none 0 0, .slice none 0 0]) 5 80 Tryd.underlying28 (by kernel_rfl) (by kernel_rfl) (by kernel_rfl) (by kernel_rfl) rfl (by omega) (owns_base ho2 (Nat.zero_le _)) (flat mk2 (List.range m.length)) hl2 had2 hn2 ho2' (by unfold maxLen; omega) (by omega) (fun v3 W3 ho3 hg3 hv3 => ?_)
  have hz12 := hb12.size
  have hb3 : Below W.heap.size W2 W3 := Cd.below_of_grown hg3 hz12 (fun i hi => (owns_own ho2 hi).2.1)
  refine k v3 W3 (joinO (l := l.take n) (m := m) h31 h41 h32 h42 ?_) (hb12.trans hb3)
  rw [htl]
  refine owns_up ho3 (fun i hi => ?_)
  rcases hv3 i hi with e | e
  · exact (owns_own ho2 e).2.1
  · omega
end
end Go.Proofs
namespace Go.Proofs
open Go Go.Sh Go.RowKit CodeSpec JnSpec DkSpec
set_option linter.unusedSimpArgs false
set_option linter.unusedVariables false
set_option maxRecDepth 10000
open Cd (Val ValCells encV FewT)
def Small (l : List Val) : Prop := l.length ≤ 40 ∧ ∀ (w : World) (cs : List Value) i (hi : i < l.length), ValCells w cs l[i] → Cd.ValFit l[i] ∧ (encV l[i]).length ≤ 20000
section
variable {w w0 W W' : World} {Kp Kp' : Nat → Prop} {b p B : Nat} {A A' : Ab} {h h' : Dk} {j j' : Jn} {u u' : Value} {all sure all' sure' : List Bs} {K F : Value → World → Prop} {v : Value} {l m : List Val}
theorem lt_of_cell {b o : Nat} {x : Value} (h : W.cell? ⟨b, o, none⟩ = some x) : b < W.heap.size := by
  refine Classical.byContradiction fun hn => ?_
  have e : W.heap[b]? = none := Array.getElem?_eq_none (by omega)
  unfold World.cell? at h
  rw [e] at h
  cases h
theorem RowC.next (h : RowC w0 W v l) (hk : ∀ (b o : Nat) (c : Nat), v = .slice (some ⟨b, o, none⟩) l.length c → 0 < l.length → W'.heap[b]? = W.heap[b]?) : RowC w0 W' v l := by
  obtain ⟨ad, c, mk, h1, h2, h3, h4, h5, h6⟩ := h
  refine ⟨ad, c, mk, h1, h2, h3, h4, h5, fun h0 => ?_⟩
  obtain ⟨bb, o, e, hc⟩ := h6 h0
  have hb := hk bb o c (by rw [h1, e]) h0
  refine ⟨bb, o, e, fun k x hx => ?_⟩
  have := hc k x hx
  unfold World.cell? at this ⊢
  rw [hb]; exact this
theorem final_ok {x0 x1 : Value} (R : RS w0 W Kp b A h p j u all sure) (h6 : 6 ≤ w0.heap.size) (hj : j.recs = encL l) (ho : OwnC B w0 W v l) (hs : Small l) (k : ∀ W', Below w0.heap.size W W' → K (.bool true) W') :
    loopM [x0, x1, .int .i64 0] W (fun J_90 m_91 l_92 u_l_92 w0_l_92 => loop_10_90 J_90 K l_92 m_91 v (jnP p) (.bool true) w0_l_92) := by
  refine ⟨fun vs W1 => ∃ i : Nat, vs.getD 2 undef = .int .i64 (i : Int) ∧ i ≤ l.length ∧ Below W.heap.size W W1, fun vs _ => match vs.getD 2 undef with | .int _ n => l.length - n.toNat | _ => 0, ⟨0, rfl, by omega, Below.refl _ _⟩, ?_⟩
  rintro l92 _ W1 ⟨i, hiv, hi, hb1⟩
  unfold loop_10_90
  have hl40 := hs.1
  have R1 := R.below hb1
  have ho1 := ho.keep (W' := W1) (fun i hi => hb1.block i (ho.own hi).2)
  obtain ⟨va, vc, hve, _⟩ := ho1.row.len
  rw [hiv, hve]
  by_cases hlt : i < l.length
  · have hel := ho1.row.elem hlt
    obtain ⟨bb, o, c, cs, e, hvc, hcl, hcell⟩ := hel
    rw [hve] at e
    have hz1 := R1.bl.size
    obtain ⟨rfl, _, rfl⟩ := Value.slice.inj e
    obtain ⟨hfit, hlen⟩ := hs.2 _ _ i hlt hvc
    repeat (any_goals (first
    | (with_reducible ((refine idCond ?_); refine yN ?_))
    | ((with_reducible refine idO ?_); (with_reducible refine oM_gen fun Kv hK=>?_); simp [go_sem]; refine hK _ _ ?_; clear hK; clear Kv)))
    refine get_ok R1.jn i ?_
    have hg : (if (i : Int) < 0 then [] else j.recs.getD (i : Int).toNat []) = encV l[i] := by
      rw [if_neg (by omega), hj]
      simp [encL, hlt]
    rw [hg]
    skip
    refine Cd.open_ok _ (fun W2 hr2 hb2 => ?_)
    have R2 := R1.below hb2
    have hix := Cd.idx28 (b := bb) (o := o) (c := vc) hlt W2
    have hblk : W2.heap[bb]? = W1.heap[bb]? := by
      refine hb2.block bb ?_
      have := hcell 0 (by omega)
      have hc0 : 0 < cs.length := by omega
      rw [List.getElem?_eq_getElem hc0] at this
      exact lt_of_cell this
    have hcell2 : ∀ j, j < 5 → W2.cell? ⟨bb, o + 5 * i + j, none⟩ = cs[j]? := fun j hj => by
      rw [← hcell j hj]; unfold World.cell?; rw [hblk]
    have hld := Cd.load25 (w := W2) (b := bb) (o := o + 5 * i) hcl hcell2
    repeat (any_goals (first
    | (rw [oM_indexAddr, hix, rM_ok]) | (rw [oM_load, hld, rM_ok])
    | (with_reducible ((refine idCond ?_); refine yM ?_))
    | ((with_reducible refine idO ?_); (with_reducible refine oM_gen fun Kv hK=>?_); simp [go_sem, oM_eqc, eqGuard]; refine hK _ _ ?_; clear hK; clear Kv)))
    refine Cd.equal_ok l[i] cs _ [] R2.s.l (by omega) (by rw [List.append_nil]; exact hr2) R2.bl hz1 hvc hfit (by simp; omega) (fun W3 hr3 hg3 => ?_)
    have hb3 : Below W.heap.size W1 W3 := (hb2.mono hb1.size).trans (Cd.below_of_grown hg3 (Nat.le_trans hb1.size hb2.size) (fun k hk => by cases hk; exact hb1.size))
    repeat (any_goals (first
    | (with_reducible first|refine pureM_in ?_|((refine idGd ?_); refine zC ?_))
    | ((with_reducible refine idO ?_); (with_reducible refine oM_gen fun Kv hK=>?_); simp [go_sem]; refine hK _ _ ?_; clear hK; clear Kv)))
    refine Cd.done_ok _ _ hr3 ?_
    rw [show Cd.rdDone ⟨[], false⟩ = true from rfl]
    repeat (any_goals (first
    | (with_reducible first|((refine idGd ?_); refine zC ?_)|((refine idPick ?_); refine yC ?_)|((refine idCond ?_); refine yM ?_))
    | ((with_reducible refine idO ?_); (with_reducible refine oM_gen fun Kv hK=>?_); simp [go_sem]; (try simp (disch := omega) only [wrapI64, wrapU8, wrapU32, wrapU64]); refine hK _ _ ?_; clear hK; clear Kv)))
    exact ⟨⟨i + 1, rfl, hlt, hb1.trans hb3⟩, by show _ < (match l92.getD 2 undef with | .int _ n => l.length - n.toNat | _ => 0); rw [hiv]; simp; omega⟩
  · repeat (any_goals (first
    | (with_reducible ((refine idCond ?_); refine yO ?_))
    | ((with_reducible refine idO ?_); (with_reducible refine oM_gen fun Kv hK=>?_); simp [go_sem]; refine hK _ _ ?_; clear hK; clear Kv)))
    exact k W1 (hb1.mono R.bl.size)
end
end Go.Proofs
namespace Go.Proofs
open Go Go.Sh Go.RowKit CodeSpec JnSpec DkSpec
set_option linter.unusedSimpArgs false
set_option linter.unusedVariables false
set_option maxRecDepth 10000
open Cd (Val ValCells encV FewT)
section
variable {w w0 W W' : World} {Kp Kp' : Nat → Prop} {b p B : Nat} {A A' : Ab} {h h' : Dk} {j j' : Jn} {u u' : Value} {all sure all' sure' : List Bs} {K F : Value → World → Prop} {v : Value} {l m : List Val}
theorem small_join (hl : FewT l) (hm : FewT m) {n : Nat} (hn : n ≤ l.length) : Small (l.take n ++ m) := by
  have h1 := hl.1.1
  have h2 := hm.1.1
  refine ⟨by rw [List.length_append, List.length_take]; omega, fun w cs i hi hc => ?_⟩
  by_cases h : i < (l.take n).length
  · have hi2 : i < l.length := by rw [List.length_take] at h; omega
    have e : (l.take n ++ m)[i] = l[i] := by rw [List.getElem_append_left h, List.getElem_take]
    rw [e] at hc ⊢
    exact few_mem hl hi2 hc
  · have hi2 : i - (l.take n).length < m.length := by rw [List.length_append] at hi; omega
    have e : (l.take n ++ m)[i] = m[i - (l.take n).length] := by rw [List.getElem_append_right (by omega)]
    rw [e] at hc ⊢
    exact few_mem hm hi2 hc
theorem encL_append : encL (l ++ m) = encL l ++ encL m := by simp [encL]
set_option maxHeartbeats 1000000 in
theorem loop2_ok {a3 x0 : Value} (R : RS w0 W Kp b A h p j u (encL l) sure) (h6 : 6 ≤ w0.heap.size) (ha : ArgC w0 a3 m) (hm : FewT m) (hl : l.length ≤ 20) (ho : OwnC B w0 W v (l ++ m)) (hKv : ∀ i, v.ownBlock = some i → Kp i) (hs : Small (l ++ m)) (k : ∀ W', Below w0.heap.size W W' → K (.bool true) W') :
    loopM [x0, .int .i64 0] W (fun J_65 m_66 l_67 u_l_67 w0_l_67 => loop_10_65 J_65 K a3 l_67 m_66 v (.bool true) (dkP b) (jnP p) w0_l_67) := by
  refine ⟨fun vs W1 => ∃ (i : Nat) (A1 : Ab) (h1 : Dk) (j1 : Jn) (u1 : Value), vs.getD 1 undef = .int .i64 (i : Int) ∧ i ≤ m.length ∧ RS w0 W1 Kp b A1 h1 p j1 u1 (encL (l ++ m.take i)) sure ∧ OwnC B w0 W1 v (l ++ m) ∧ Below w0.heap.size W W1, fun vs _ => match vs.getD 1 undef with | .int _ n => m.length - n.toNat | _ => 0, ⟨0, A, h, j, u, rfl, by omega, by rw [List.take_zero, List.append_nil]; exact R, ho, Below.refl _ _⟩, ?_⟩
  rintro l67 _ W1 ⟨i, A1, h1, j1, u1, hiv, hi, R1, ho1, hb1⟩
  unfold loop_10_65
  have hm20 := hm.1.1
  have hr1 := ha.at R1.bl
  obtain ⟨va, vc, rfl, _⟩ := hr1.len
  rw [hiv]
  have hrec := R1.lv.recs
  by_cases hlt : i < m.length
  · have hj1 : j1.recs.length ≤ 48 := by
      rw [← hrec, encL_len, List.length_append, List.length_take]; omega
    have key := R1.app_val (F := fun v125_73 w => oM Tryd.prog (.binOp .neq 54 (.tmp 0) (.const (.int .i64 0)) 54) 4 [v125_73] (fun v126_74 w => condM v126_74 (K (.bool false) w) (oM Tryd.prog (.binOp .add 3 (.tmp 0) (.tmp 1) 3) 3 [.int .i64 (i : Int), .int .i64 1] (fun v118_75 w => (fun vs W1 => ∃ (i : Nat) (A1 : Ab) (h1 : Dk) (j1 : Jn) (u1 : Value), vs.getD 1 undef = .int .i64 (i : Int) ∧ i ≤ m.length ∧ RS w0 W1 Kp b A1 h1 p j1 u1 (encL (l ++ m.take i)) sure ∧ OwnC B w0 W1 v (l ++ m) ∧ Below w0.heap.size W W1) [(l67.getD 0 undef), v118_75] w ∧ (fun vs (_ : World) => match vs.getD 1 undef with | .int _ n => m.length - n.toNat | _ => 0) [(l67.getD 0 undef), v118_75] w < (fun vs (_ : World) => match vs.getD 1 undef with | .int _ n => m.length - n.toNat | _ => 0) l67 W1) w)) w) hr1 hm hlt hj1 (fun W2 A2 h2 j2 u2 R2 _ hk2 hb2 => by
      repeat (any_goals (first
      | (with_reducible ((refine idCond ?_); refine yM ?_))
      | ((with_reducible refine idO ?_); (with_reducible refine oM_gen fun Kv hK=>?_); simp [go_sem]; (try simp (disch := omega) only [wrapI64, wrapU8, wrapU32, wrapU64]); refine hK _ _ ?_; clear hK; clear Kv)))
      have e : encL (l ++ m.take i) ++ [encV m[i]] = encL (l ++ m.take (i + 1)) := by
        rw [encL_append, encL_append, List.append_assoc, encL_snoc hlt]
      rw [e] at R2
      exact ⟨⟨i + 1, A2, h2, j2, u2, rfl, hlt, R2, ho1.keep (fun k hk => hk2 k (hKv k hk)), hb1.trans hb2⟩, by show _ < (match l67.getD 1 undef with | .int _ n => m.length - n.toNat | _ => 0); rw [hiv]; exact Nat.sub_lt_sub_left hlt (Nat.lt_succ_self i)⟩)
    repeat (any_goals (first
    | (with_reducible ((refine idCond ?_); refine yN ?_))
    | ((with_reducible refine idO ?_); (with_reducible refine oM_gen fun Kv hK=>?_); simp [go_sem]; refine hK _ _ ?_; clear hK; clear Kv)))
    exact key
  · have hil : i = m.length := by omega
    rw [hil, List.take_length] at R1 hrec
    repeat (any_goals (first
    | (with_reducible ((refine idCond ?_); refine yO ?_))
    | ((with_reducible refine idO ?_); (with_reducible refine oM_gen fun Kv hK=>?_); simp [go_sem]; refine hK _ _ ?_; clear hK; clear Kv)))
    refine R1.sync (fun W2 A2 h2 R2 hk2 hb2 => ?_)
    repeat (any_goals (first
    | (with_reducible ((refine idCond ?_); refine yM ?_))
    | ((with_reducible refine idO ?_); (with_reducible refine oM_gen fun Kv hK=>?_); simp [go_sem]; refine hK _ _ ?_; clear hK; clear Kv)))
    refine R2.again (kv := .slice none 0 0) (keep := []) ⟨none, 0, rfl, fun _ => ⟨rfl, rfl⟩, .inl rfl⟩ (by simp) (fun W3 A3 h3 p3 j3 u3 R3 hp1 hp2 hk3 hb3 => ?_)
    have hj3 : j3.recs = encL (l ++ m) := by
      rw [hrec] at hp1
      have h1 := hp1.length_le
      have h2 := hp2.length_le
      rw [hrec]
      exact hp1.eq_of_length (by omega)
    have ho3 : OwnC B w0 W3 v (l ++ m) := ho1.keep (fun k hk => (hk3 k (hKv k hk)).trans (hk2 k (hKv k hk)))
    obtain ⟨oa, oc, ove, _⟩ := ho3.row.len
    have hl3 : (j3.recs.length : Int) = ((l ++ m).length : Int) := by rw [hj3, encL_len]
    repeat (any_goals (first
    | (with_reducible first|refine pureM_in ?_|((refine idGd ?_); refine zC ?_)|((refine idPick ?_); refine yC ?_)|((refine idCond ?_); refine yM ?_))
    | ((with_reducible refine idO ?_); (with_reducible refine oM_gen fun Kv hK=>?_); simp [go_sem]; refine hK _ _ ?_; clear hK; clear Kv)))
    refine len_ok R3.jn ?_
    rw [hl3]
    have fin := fun x0 x1 => final_ok (x0 := x0) (x1 := x1) (K := K) R3 h6 hj3 ho3 hs (fun W4 hb4 => k W4 (hb1.trans (hb2.trans (hb3.trans hb4))))
    rw [ove] at fin ⊢
    repeat (any_goals (first
    | (with_reducible ((refine idCond ?_); refine yM ?_))
    | ((with_reducible refine idO ?_); (with_reducible refine oM_gen fun Kv hK=>?_); simp [go_sem]; refine hK _ _ ?_; clear hK; clear Kv)))
    exact fin _ _
set_option maxHeartbeats 1000000 in
theorem recovers_ok {a0 a2 a3 : Value} {n0 : Int} {keep : List Int} (hn0 : 0 ≤ n0 ∧ n0 < 256) (hl : Cd.Laid w) (h0 : ArgC w a0 l) (h3 : ArgC w a3 m) (hv0 : Cd.ValRow w a0 l) (hv3 : Cd.ValRow w a3 m) (hr : RowN intC w.heap.size w a2 keep) (k : ∀ W', Below w.heap.size w W' → K (.bool true) W') :
    callM Tryd.prog 10 #[a0, .int .u8 n0, a2, a3] K w := by
  apply sh_10_ok
  unfold sh_10
  refine sane_ok hl (fun w1 b1 => ?_)
  obtain ⟨ka, kc, rfl, hkn, hkr⟩ := id hr
  refine Cd.fewT_ok l a0 (hv0.below b1) (fun t w2 b2 hf => ?_)
  have b12 := b1.trans (b2.mono b1.size)
  cases t with
  | false =>
    repeat (any_goals (first
    | (with_reducible first|((refine idGd ?_); refine zD ?_)|((refine idPick ?_); refine yB ?_)|((refine idCond ?_); refine yL ?_))
    | ((with_reducible refine idO ?_); (with_reducible refine oM_gen fun Kv hK=>?_); simp [go_sem]; refine hK _ _ ?_; clear hK; clear Kv)))
    exact k _ b12
  | true =>
  have hfl := hf rfl
  repeat (any_goals (first
  | (with_reducible first|refine pureM_in ?_|((refine idGd ?_); refine zC ?_))
  | ((with_reducible refine idO ?_); (with_reducible refine oM_gen fun Kv hK=>?_); simp [go_sem]; refine hK _ _ ?_; clear hK; clear Kv)))
  refine Cd.fewT_ok m a3 (hv3.below b12) (fun t w3 b3 hf => ?_)
  have b13 := b12.trans (b3.mono b12.size)
  cases t with
  | false =>
    repeat (any_goals (first
    | (with_reducible first|((refine idGd ?_); first|refine zC ?_|refine zD ?_)|((refine idPick ?_); first|refine yB ?_|refine yC ?_)|((refine idCond ?_); refine yL ?_))
    | ((with_reducible refine idO ?_); (with_reducible refine oM_gen fun Kv hK=>?_); simp [go_sem]; refine hK _ _ ?_; clear hK; clear Kv)))
    exact k _ b13
  | true =>
  have hfm := hf rfl
  by_cases hk : 50 < keep.length
  · repeat (any_goals (first
    | (with_reducible first|refine pureM_in ?_|((refine idGd ?_); refine zC ?_)|((refine idPick ?_); refine yC ?_)|((refine idCond ?_); refine yN ?_))
    | ((with_reducible refine idO ?_); (with_reducible refine oM_gen fun Kv hK=>?_); simp [go_sem]; refine hK _ _ ?_; clear hK; clear Kv)))
    exact k _ b13
  repeat (any_goals (first
  | (with_reducible first|refine pureM_in ?_|((refine idGd ?_); refine zC ?_)|((refine idPick ?_); refine yC ?_)|((refine idCond ?_); refine yO ?_))
  | ((with_reducible refine idO ?_); (with_reducible refine oM_gen fun Kv hK=>?_); simp [go_sem]; refine hK _ _ ?_; clear hK; clear Kv)))
  have h6 : 6 ≤ w3.heap.size := Nat.le_trans hl.size b13.size
  have h03 := h0.up b13
  have h33 := h3.up b13
  have hr3 : RowN intC w3.heap.size w3 (.slice ka keep.length kc) keep := by
    obtain ⟨ad, c, e1, e2, e3⟩ := hr.below b13
    exact ⟨ad, c, e1, e2, e3.imp id (fun ⟨b, o, q1, q2, q3⟩ => ⟨b, o, q1, Nat.lt_of_lt_of_le q2 b13.size, q3⟩)⟩
  have k3 : ∀ W', Below w3.heap.size w3 W' → K (.bool true) W' := fun W' hb => k W' (b13.trans (hb.mono b13.size))
  refine newSys_ok (hl.below b13 hl.size) (fun w4 b h4 s4 b4 o4 => ?_)
  repeat (any_goals (first
  | (with_reducible ((refine idCond ?_); refine yM ?_))
  | ((with_reducible refine idO ?_); (with_reducible refine oM_gen fun Kv hK=>?_); simp [go_sem]; refine hK _ _ ?_; clear hK; clear Kv)))
  obtain ⟨B4, eo, uB, lB⟩ := open_new (f := 2) (by omega)
  refine openJ_ok s4 2 (fun w5 h5 r s5 t5 o5 => ?_)
  rw [eo] at s5 o5 ⊢
  obtain ⟨p, v, rfl, jn5, hj5⟩ := o5
  have bl5 : Below w3.heap.size w3 w5 := b4.trans (below_of_step t5 o4 b4.size)
  have hl20 := hfl.1.1
  obtain ⟨n, en⟩ : ∃ n : Nat, n = (n0 % ((l.length : Int) + 1)).toNat := ⟨_, rfl⟩
  have hn1 : n0.tmod ((l.length : Int) + 1) = (n : Int) := by
    rw [Int.tmod_eq_emod_of_nonneg (by omega), en]
    have := Int.emod_nonneg n0 (b := (l.length : Int) + 1) (by omega)
    omega
  have hn2 : n ≤ l.length := by
    have := Int.emod_lt_of_pos n0 (b := (l.length : Int) + 1) (by omega)
    have := Int.emod_nonneg n0 (b := (l.length : Int) + 1) (by omega)
    omega
  have R5 : RS w3 w5 NoK b B4 h5 p ⟨[], 0, false⟩ v (encL (l.take 0)) (sureN l n 0) := ⟨s5, uB, lB, rfl, jn5, fun i hi => ⟨Nat.le_trans b4.size (hj5 i hi), fun e => e⟩, own_step t5 o4 b4.size, bl5, fun k e => e.elim⟩
  clear lB uB s5 jn5 eo
  obtain ⟨va, vc, rfl, hvl⟩ := (h03.at bl5).len
  have hne : ¬ ((l.length : Int) + 1) = 0 := by omega
  have hw0 : IntKind.i64.wrap n0 = n0 := by rw [wrapI64] <;> omega
  repeat (any_goals (first
  | (with_reducible first|refine pureM_in ?_|((refine idGd ?_); refine zC ?_)|((refine idPick ?_); refine yC ?_)|((refine idCond ?_); refine yM ?_))
  | ((with_reducible refine idO ?_); (with_reducible refine oM_gen fun Kv hK=>?_); simp [go_sem, hn1, hne, hw0]; (try simp (disch := omega) only [wrapI64, wrapU8, wrapU32, wrapU64]); refine hK _ _ ?_; clear hK; clear Kv)))
  refine ⟨fun vs W1 => ∃ (i : Nat) (A1 : Ab) (h1 : Dk) (j1 : Jn) (u1 : Value), vs.getD 1 undef = .int .i64 (i : Int) ∧ i ≤ l.length + 1 ∧ RS w3 W1 NoK b A1 h1 p j1 u1 (encL (l.take i)) (sureN l n i), fun vs _ => match vs.getD 1 undef with | .int _ n => l.length + 1 - n.toNat | _ => 0, ⟨0, B4, h5, _, v, rfl, by omega, R5⟩, ?_⟩
  rintro l27 _ W1 ⟨i, A1, h1, j1, u1, hiv, hi, R1⟩
  unfold loop_10_25
  rw [hiv]
  by_cases hle : i ≤ l.length
  · repeat (any_goals (first
    | (with_reducible ((refine idCond ?_); refine yN ?_))
    | ((with_reducible refine idO ?_); (with_reducible refine oM_gen fun Kv hK=>?_); simp [go_sem]; refine hK _ _ ?_; clear hK; clear Kv)))
    refine ⟨fun vs W2 => ∃ A2 h2 j2 u2, RS w3 W2 NoK b A2 h2 p j2 u2 (encL (l.take (i + 1))) (sureN l n (i + 1)), ?_, ?_⟩
    · exact turn1_ok (x0 := undef) R1 (h03.at R1.bl) (fun W' hb => h03.at (R1.bl.trans hb)) hfl hle hiv hn2 (fun x W2 A2 h2 j2 u2 R2 _ => ⟨A2, h2, j2, u2, R2⟩)
    · rintro l31 _ W2 ⟨A2, h2, j2, u2, R2⟩
      repeat (any_goals ((with_reducible refine idO ?_); (with_reducible refine oM_gen fun Kv hK=>?_); simp [go_sem]; (try simp (disch := omega) only [wrapI64, wrapU8, wrapU32, wrapU64]); refine hK _ _ ?_; clear hK; clear Kv))
      exact ⟨⟨i + 1, A2, h2, j2, u2, rfl, by omega, R2⟩, by show _ < (match l27.getD 1 undef with | .int _ n => l.length + 1 - n.toNat | _ => 0); rw [hiv]; simp; omega⟩
  · have hil : i = l.length + 1 := by omega
    have e1 : encL (l.take i) = encL l := by rw [hil, List.take_of_length_le (by omega)]
    have e2 : sureN l n i = encL (l.take n) := by unfold sureN; rw [if_pos (by omega)]
    rw [e1, e2] at R1
    repeat (any_goals (first
    | (with_reducible ((refine idCond ?_); refine yO ?_))
    | ((with_reducible refine idO ?_); (with_reducible refine oM_gen fun Kv hK=>?_); simp [go_sem]; refine hK _ _ ?_; clear hK; clear Kv)))
    refine R1.again (hr3.below R1.bl) (by omega) (fun W2 A2 h2 p2 j2 u2 R2 hp1 hp2 hk2 hb2 => ?_)
    obtain ⟨z, ez⟩ : ∃ z, z = j2.recs.length := ⟨_, rfl⟩
    have hz1 : z ≤ l.length := by have := hp1.length_le; rw [encL_len] at this; omega
    have hz2 : n ≤ z := by have := hp2.length_le; rw [encL_len, List.length_take] at this; omega
    have hj2 : j2.recs = encL (l.take z) := by
      have := List.prefix_iff_eq_take.1 hp1
      rw [this, ← ez]; simp [encL, List.map_take]
    rw [hj2] at R2
    repeat (any_goals (first
    | (with_reducible first|refine pureM_in ?_|((refine idGd ?_); refine zC ?_)|((refine idPick ?_); refine yC ?_)|((refine idCond ?_); refine yM ?_))
    | ((with_reducible refine idO ?_); (with_reducible refine oM_gen fun Kv hK=>?_); simp [go_sem]; refine hK _ _ ?_; clear hK; clear Kv)))
    refine len_ok R2.jn ?_
    rw [← ez]
    repeat (any_goals (first
    | (with_reducible first|refine pureM_in ?_|((refine idGd ?_); ((refine idGdD ?_); refine zI ?_))|((refine idPick ?_); refine yE ?_)|((refine idCond ?_); refine yO ?_))
    | ((with_reducible refine idO ?_); (with_reducible refine oM_gen fun Kv hK=>?_); simp [go_sem]; refine hK _ _ ?_; clear hK; clear Kv)))
    refine build_ok (h03.at R2.bl) hz1 hl20 (h33.at R2.bl) hfm.1.1 (fun W' hb => h33.at (R2.bl.trans (hb.mono R2.bl.size))) (fun W' hb => h03.at (R2.bl.trans (hb.mono R2.bl.size))) (fun v3 W3 ho3 hb3 => ?_)
    have R3 := R2.grow (Kp' := fun k => v3.ownBlock = some k) hb3 (fun k hk => .inr (ho3.own hk))
    exact loop2_ok R3 h6 h33 hfm (by rw [List.length_take]; omega) ho3 (fun i hi => hi) (small_join hfl hfm hz1) (fun W' hb => k3 W' (R3.bl.trans hb))
end
end Go.Proofs
