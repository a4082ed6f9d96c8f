/- Parts of the proof of the seat's statements (JM8, JM9): lemmas about the given translation and plain laws. No condition of their own. -/
import Derived.Test.YtefjibjojkjiiaaDoorLsd
set_option linter.all false
namespace Go.Proofs
open Go Go.Sh Go.RowKit CodeSpec JnSpec DkSpec
set_option linter.unusedSimpArgs false
set_option linter.unusedVariables false
set_option maxRecDepth 10000
section
variable {w w0 W W1 W' : World} {Kp Kp' : Nat → Prop} {b p g i : Nat} {A A' : Ab} {h h' : Dk} {jo : Option Jn} {j j' : Jn} {jv u u' : Value} {all sure all' sure' : List Bs} {K : Value → World → Prop}
theorem do_ok {l : List JOp} {l16 l24 : List Value} {a0 vk : Value} {x : JOp} {M : List Value → World → Prop} (hM : ∀ vs W, LM w0 b (i + 1) vs W → M vs W) (h6 : 6 ≤ w0.heap.size)
    (L : LS w0 W (KpG l16 g) b A h jo (l16.getD 12 undef) all sure) (hh : Holds W g 67 (opC x.k x.s x.n vk)) (hc : OpCells w0.heap.size W (opC x.k x.s x.n vk) x) (ht : x.s.length ≤ 200 ∧ x.keep.length ≤ 50)
    (ra : W.ownsRow w0.heap.size 9 1 (l16.getD 4 undef) all.length (all.map Cd.strV)) (rs : W.ownsRow w0.heap.size 9 1 (l16.getD 7 undef) sure.length (sure.map Cd.strV)) (hal : all.length ≤ i) (hi : i ≤ l.length) (hil : l.length ≤ 25)
    (ho : OpRow w0.heap.size W a0 l) (hiv : l16.getD 14 undef = .int .i64 (i : Int)) (fin : i = l.length → A.lost = 0 ∧ A.armed = 0 ∧ x.k = 4) :
    post_9_23 K M a0 l16 (ptr g 0) (dkP b) l24 W := by
  unfold post_9_23
  obtain ⟨c0, c1, c2, c3⟩ := op_cells hh
  have hK1 : ∀ k, (l16.getD 4 undef).ownBlock = some k → KpG l16 g k := fun k e => .inl e
  have hK2 : ∀ k, (l16.getD 7 undef).ownBlock = some k → KpG l16 g k := fun k e => .inr (.inl e)
  have hlm : ∀ {W' A' h' jo' all' sure'}, LS w0 W' (KpG l16 g) b A' h' jo' (l16.getD 12 undef) all' sure' → LS w0 W' (fun k => (l16.getD 4 undef).ownBlock = some k ∨ (l16.getD 7 undef).ownBlock = some k) b A' h' jo' (l16.getD 12 undef) all' sure' := fun L => L.less (fun k hk => hk.elim .inl (fun e => .inr (.inl e)))
  obtain ⟨vk', hvk, hrow⟩ := hc.row
  simp only [opC, List.cons.injEq, and_true, true_and] at hvk
  subst hvk
  have hz := L.bl.size
  have hrow0 : ∀ {W'}, Below w0.heap.size W W' → RowR intC 1 W' vk x.keep := fun hb => (hrow.below hb).row (Nat.le_trans hz hb.size)
  have hkr : ∀ y ∈ x.keep, -2 ^ 63 ≤ y ∧ y < 2 ^ 63 := hc.kr
  have hn := hc.nin.2
  have same : ∀ {v0 v1 v2 v3 v5 v6 v8 v9 v10 v11 v13 : Value} {W' A' h'}, LS w0 W' (KpG l16 g) b A' h' jo (l16.getD 12 undef) all sure → (∀ k, KpG l16 g k → W'.heap[k]? = W.heap[k]?) → M [v0, v1, v2, v3, l16.getD 4 undef, v5, v6, l16.getD 7 undef, v8, v9, v10, v11, l16.getD 12 undef, v13] W' := fun {v0 v1 v2 v3 v5 v6 v8 v9 v10 v11 v13 W' A' h'} L' hk =>
    hM _ _ ⟨A', h', jo, all, sure, hlm L', row_keep ra hk hK1, row_keep rs hk hK2, by omega⟩
  by_cases k0 : x.k = 0
  · rw [k0] at c0
    cases jo with
    | none =>
      have ej : l16.getD 12 undef = .pointer none := L.jn
      have := fun v0 v1 v2 v3 v5 v6 v8 v9 v10 v11 v13 => @same v0 v1 v2 v3 v5 v6 v8 v9 v10 v11 v13 W A h L (fun _ _ => rfl)
      rw [ej] at this ⊢
      repeat (any_goals (first
      | (with_reducible ((refine idCond ?_); refine yL ?_))
      | ((with_reducible refine idO ?_); (with_reducible refine oM_gen fun Kv hK=>?_); simp [go_sem, c0]; refine hK _ _ ?_; clear hK; clear Kv)))
      exact this _ _ _ _ _ _ _ _ _ _ _
    | some j =>
      have hac := app_case (v61 := .bool true) (K := K) hM h6 L hh ht.1 ra rs hal (by omega)
      obtain ⟨p, u, ej, jn, hjo⟩ := L.jn
      rw [ej] at hac ⊢
      repeat (any_goals (first
      | (with_reducible ((refine idCond ?_); first|refine yL ?_|refine yM ?_))
      | ((with_reducible refine idO ?_); (with_reducible refine oM_gen fun Kv hK=>?_); simp [go_sem, c0]; refine hK _ _ ?_; clear hK; clear Kv)))
      exact hac
  by_cases k1 : x.k = 1
  · rw [k1] at c0
    cases jo with
    | none =>
      have ej : l16.getD 12 undef = .pointer none := L.jn
      have := fun v0 v1 v2 v3 v5 v6 v8 v9 v10 v11 v13 => @same v0 v1 v2 v3 v5 v6 v8 v9 v10 v11 v13 W A h L (fun _ _ => rfl)
      rw [ej] at this ⊢
      repeat (any_goals (first
      | (with_reducible ((refine idCond ?_); first|refine yL ?_|refine yM ?_))
      | ((with_reducible refine idO ?_); (with_reducible refine oM_gen fun Kv hK=>?_); simp [go_sem, c0]; refine hK _ _ ?_; clear hK; clear Kv)))
      exact this _ _ _ _ _ _ _ _ _ _ _
    | some j =>
      obtain ⟨p, u, ej, jn, hjo⟩ := L.jn
      obtain ⟨hr, hsp⟩ := sync_spec L.g (by omega)
      have hjl := jn.len
      have go : ∀ W' h', Sys W' b (syncJ A 3 j).2.1 h' → IsJn W' b h' p 3 (syncJ A 3 j).2.2 u → JSt W b h p u W' h' u → ∀ sure', LJ 3 (syncJ A 3 j).2.1 (syncJ A 3 j).2.2 all sure' → LS w0 W' (KpG l16 g) b (syncJ A 3 j).2.1 h' (some (syncJ A 3 j).2.2) (l16.getD 12 undef) all sure' ∧ ∀ k, KpG l16 g k → W'.heap[k]? = W.heap[k]? := fun W' h' s' jn' t' sure' g' => L.jour ej hjo s' jn' t' g'
      rw [ej] at hlm go ⊢
      repeat (any_goals (first
      | (with_reducible ((refine idCond ?_); first|refine yL ?_|refine yM ?_))
      | ((with_reducible refine idO ?_); (with_reducible refine oM_gen fun Kv hK=>?_); simp [go_sem, c0]; refine hK _ _ ?_; clear hK; clear Kv)))
      refine syncJ_ok L.s jn (fun W1 h1 s1 jn1 t1 => ?_)
      rcases hsp with ⟨he, hg⟩ | ⟨he, hg⟩
      · rw [he]
        obtain ⟨L1, hk1⟩ := go W1 h1 s1 jn1 t1 _ hg
        repeat (any_goals (first
        | (with_reducible ((refine idCond ?_); refine yL ?_))
        | ((with_reducible refine idO ?_); (with_reducible refine oM_gen fun Kv hK=>?_); simp [go_sem]; refine hK _ _ ?_; clear hK; clear Kv)))
        refine all_ok jn1 (fun vs W2 ro b2 => ?_)
        have hjl1 := jn1.len
        refine hM _ _ ⟨(syncJ A 3 j).2.1, h1, some (syncJ A 3 j).2.2, all, j.recs, ?_, row_below (row_keep ra hk1 hK1) b2, ?_, by omega⟩
        · refine L1.grow b2 (fun k hk => hk.elim (fun e => .inl (.inl e)) (fun e => .inr ⟨(owns_own ro e).2.1, (owns_own ro e).1⟩))
        · rw [hr] at ro
          exact owns_base ro (by have := L1.bl.size; omega)
      · obtain ⟨L1, hk1⟩ := go W1 h1 s1 jn1 t1 _ hg
        repeat (any_goals (first
        | (with_reducible ((refine idCond ?_); refine yO ?_))
        | ((with_reducible refine idO ?_); (with_reducible refine oM_gen fun Kv hK=>?_); simp [go_sem]; refine hK _ _ ?_; clear hK; clear Kv)))
        exact hM _ _ ⟨_, h1, _, all, sure, hlm L1, row_keep ra hk1 hK1, row_keep rs hk1 hK2, by omega⟩
  by_cases k2 : x.k = 2
  · rw [k2] at c0
    repeat (any_goals (first
    | (with_reducible ((refine idCond ?_); first|refine yL ?_|refine yM ?_))
    | ((with_reducible refine idO ?_); (with_reducible refine oM_gen fun Kv hK=>?_); simp [go_sem, c0, c2]; refine hK _ _ ?_; clear hK; clear Kv)))
    refine lose_ok L.s.d x.n hn (fun W1 d1 t1 => ?_)
    obtain ⟨L1, hk1⟩ := L.disk d1 t1 (L.g.lose x.n hn)
    skip
    exact same L1 hk1
  by_cases k3 : x.k = 3
  · rw [k3] at c0
    repeat (any_goals (first
    | (with_reducible ((refine idCond ?_); first|refine yL ?_|refine yM ?_))
    | ((with_reducible refine idO ?_); (with_reducible refine oM_gen fun Kv hK=>?_); simp [go_sem, c0, c2, c3]; refine hK _ _ ?_; clear hK; clear Kv)))
    refine arm_ok L.s.d x.n hn (hrow0 (Below.refl _ _)) (by omega) hkr (fun W1 h1 d1 t1 => ?_)
    obtain ⟨L1, hk1⟩ := L.disk d1 t1 (L.g.arm x.n hn x.keep hkr (by omega))
    skip
    exact same L1 hk1
  have Ln : LS w0 W (KpG l16 g) b A h none (.pointer none) all sure := ⟨L.s, L.g.good, rfl, L.ow, L.bl, L.kp⟩
  by_cases k4 : x.k = 4
  · rw [k4] at c0
    repeat (any_goals (first
    | (with_reducible ((refine idCond ?_); refine yM ?_))
    | ((with_reducible refine idO ?_); (with_reducible refine oM_gen fun Kv hK=>?_); simp [go_sem, c0]; refine hK _ _ ?_; clear hK; clear Kv)))
    refine ⟨fun l94 W1 => l94 = [.bool true] ∧ W = W1, ?_, ?_⟩
    · repeat (any_goals (first
      | (with_reducible ((refine idCond ?_); refine yL ?_))
      | ((with_reducible refine idO ?_); (with_reducible refine oM_gen fun Kv hK=>?_); simp [go_sem]; refine hK _ _ ?_; clear hK; clear Kv)))
      exact ⟨rfl, rfl⟩
    · rintro _ _ W1 ⟨rfl, rfl⟩
      unfold post_9_93
      simp only [List.getD_cons_zero]
      repeat (any_goals (with_reducible ((refine idCond ?_); refine yL ?_)))
      refine ⟨fun _ W1 => ∃ A1 h1, LS w0 W1 (KpG l16 g) b A1 h1 none (.pointer none) all sure ∧ (∀ k, KpG l16 g k → W1.heap[k]? = W.heap[k]?) ∧ Below w0.heap.size W W1 ∧ (i = l.length → A1.lost = 0 ∧ A1.armed = 0), ?_, ?_⟩
      · unfold pre_9_97
        repeat (any_goals (first
        | (with_reducible ((refine idCond ?_); refine yL ?_))
        | ((with_reducible refine idO ?_); (with_reducible refine oM_gen fun Kv hK=>?_); simp [go_sem, c0, c3]; refine hK _ _ ?_; clear hK; clear Kv)))
        refine crash_ok L.s.d (hrow0 (Below.refl _ _)) (by omega) (fun W1 f1 => hrow0 ⟨f1.os, f1.tape, f1.output, f1.size, fun i hi => f1.block i (by omega) (fun ho => by have := L.ow i ho; omega)⟩) (fun W1 h1 d1 t1 => ?_)
        obtain ⟨L1, hk1⟩ := Ln.disk d1 t1 (L.g.good.crash x.keep)
        skip
        exact ⟨_, h1, L1, hk1, below_of_step t1 L.ow hz, fun e => crash_zero A x.keep (fin e).1 (fin e).2.1⟩
      · rintro l98 _ W1 ⟨A1, h1, L1, hk1, bb1, fin1⟩
        exact re_ok hM L1 (ho.below bb1) hiv hil (row_keep ra hk1 hK1) (row_keep rs hk1 hK2) (by omega) hi hK1 hK2 fin1
  by_cases k5 : x.k = 5
  · rw [k5] at c0
    repeat (any_goals (first
    | (with_reducible ((refine idCond ?_); refine yM ?_))
    | ((with_reducible refine idO ?_); (with_reducible refine oM_gen fun Kv hK=>?_); simp [go_sem, c0]; refine hK _ _ ?_; clear hK; clear Kv)))
    refine ⟨fun l94 W1 => l94 = [.bool true] ∧ W = W1, ?_, ?_⟩
    · repeat (any_goals (first
      | (with_reducible ((refine idCond ?_); refine yM ?_))
      | ((with_reducible refine idO ?_); (with_reducible refine oM_gen fun Kv hK=>?_); simp [go_sem]; refine hK _ _ ?_; clear hK; clear Kv)))
      exact ⟨rfl, rfl⟩
    · rintro _ _ W1 ⟨rfl, rfl⟩
      unfold post_9_93
      simp only [List.getD_cons_zero]
      repeat (any_goals (with_reducible ((refine idCond ?_); refine yL ?_)))
      refine ⟨fun _ W1 => W = W1, ?_, ?_⟩
      · unfold pre_9_97
        repeat (any_goals (first
        | (with_reducible ((refine idCond ?_); refine yM ?_))
        | ((with_reducible refine idO ?_); (with_reducible refine oM_gen fun Kv hK=>?_); simp [go_sem, c0]; refine hK _ _ ?_; clear hK; clear Kv)))
        rfl
      · rintro l98 _ W1 rfl
        exact re_ok hM Ln ho hiv hil ra rs (by omega) hi hK1 hK2 (fun e => ⟨(fin e).1, (fin e).2.1⟩)
  · repeat (any_goals (first
    | (with_reducible ((refine idCond ?_); refine yO ?_))
    | ((with_reducible refine idO ?_); (with_reducible refine oM_gen fun Kv hK=>?_); simp [go_sem, c0]; refine hK _ _ ?_; clear hK; clear Kv)))
    refine ⟨fun l94 W1 => l94 = [.bool false] ∧ W = W1, ?_, ?_⟩
    · repeat (any_goals (first
      | (with_reducible ((refine idCond ?_); refine yO ?_))
      | ((with_reducible refine idO ?_); (with_reducible refine oM_gen fun Kv hK=>?_); simp [go_sem]; refine hK _ _ ?_; clear hK; clear Kv)))
      exact ⟨by simp [k5], rfl⟩
    · rintro _ _ W1 ⟨rfl, rfl⟩
      unfold post_9_93
      simp only [List.getD_cons_zero]
      repeat (any_goals (with_reducible ((refine idCond ?_); refine yM ?_)))
      exact same L (fun _ _ => rfl)
end
end Go.Proofs
namespace Go.Proofs
open Go Go.Sh Go.RowKit CodeSpec JnSpec DkSpec
set_option linter.unusedSimpArgs false
set_option linter.unusedVariables false
set_option maxRecDepth 10000
attribute [local go_sem] oM_indexAddr
section
variable {w w0 W W1 W' : World} {Kp Kp' : Nat → Prop} {b p g i : Nat} {A A' : Ab} {h h' : Dk} {jo : Option Jn} {j j' : Jn} {jv u u' : Value} {all sure all' sure' : List Bs} {K : Value → World → Prop}
theorem sz_op (w : World) : (sizeOf 67).run Tryd.prog w = .ok 4 w := by kernel_rfl
theorem al_op (w : World) : (Instr.alloc 67 true (.tuple #[])).run Tryd.prog w = .ok (.pointer (some ⟨w.heap.size, 0, none⟩)) (w.alloc (.cells (opC 0 [] 0 (.slice none 0 0)).toArray 67)) := by kernel_rfl
theorem op_one {k n : Int} {s : Bs} {ad : Option Addr} {m c : Nat} : ∀ u ∈ opC k s n (.slice ad m c), u.oneCell' = true := by
  intro u hu
  simp only [opC, List.mem_cons, List.not_mem_nil, or_false] at hu
  rcases hu with rfl | rfl | rfl | rfl <;> rfl
theorem build_op {T : TypeId} {ad : Option Addr} {m c : Nat} {K : Value → World → Prop} (k : K (.agg (opC 4 [] 0 (.slice ad m c)).toArray) w) : oM Tryd.prog (.build 67 #[(0, .tmp 0), (3, .tmp 1)]) T [.int .i64 4, .slice ad m c] K w := by
  have e : (Instr.build 67 #[(0, .int .i64 4), (3, .slice ad m c)]).run Tryd.prog w = .ok (.agg (opC 4 [] 0 (.slice ad m c)).toArray) w := by kernel_rfl
  rw [oM_build2, e]
  exact k
theorem RowN.mono {α : Type} {mk : α → List Value} {N N' : Nat} {w : World} {v : Value} {l : List α} (h : RowN mk N w v l) (hN : N ≤ N') : RowN mk N' w v l := by
  obtain ⟨ad, c, h1, h2, h3⟩ := h
  exact ⟨ad, c, h1, h2, h3.imp id (fun ⟨b, o, h4, h5, h6⟩ => ⟨b, o, h4, by omega, h6⟩)⟩
theorem OpCells.mono {N N' : Nat} {w : World} {cs : List Value} {x : JOp} (h : OpCells N w cs x) (hN : N ≤ N') : OpCells N' w cs x := by
  obtain ⟨vk, h1, h2⟩ := h.row
  exact ⟨⟨vk, h1, h2.mono hN⟩, h.kin, h.nin, h.kr⟩
theorem OpRow.mono {N N' : Nat} {w : World} {v : Value} {l : List JOp} (h : OpRow N w v l) (hN : N ≤ N') : OpRow N' w v l := by
  obtain ⟨ad, c, h1, h2⟩ := h
  refine ⟨ad, c, h1, h2.imp id ?_⟩
  rintro ⟨b, o, h3, h4, h5⟩
  refine ⟨b, o, h3, by omega, fun i hi => ?_⟩
  obtain ⟨cs, h6, h7, h8⟩ := h5 i hi
  exact ⟨cs, h6.mono hN, h7, h8⟩
theorem turn_ok {l : List JOp} {keep : List Int} {l16 : List Value} {a0 a1 : Value} {M : List Value → World → Prop} (hM : ∀ vs W, LM w0 b (i + 1) vs W → M vs W) (h6 : 6 ≤ w0.heap.size)
    (L : LM w0 b i l16 W) (hi : i ≤ l.length) (hl : FewO l) (ho : OpRow w0.heap.size w0 a0 l) (hr : RowN intC w0.heap.size w0 a1 keep) (hkr : ∀ y ∈ keep, InN y) (hkl : keep.length ≤ 50) (hiv : l16.getD 14 undef = .int .i64 (i : Int)) :
    pre_9_19 K a0 a1 l16 (dkP b) M W := by
  obtain ⟨A, h, jo, all, sure, L, ra, rs, hal⟩ := L
  unfold pre_9_19
  have hr1 := hr.below L.bl
  obtain ⟨ad, cp, rfl, hadn, hrc⟩ := id hr
  refine build_op ?_
  refine arr_alloc al_op (fun g W1 b1 hg1 hh1 => ?_)
  refine arr_store sz_op rfl rfl op_one hh1 rfl (fun W2 hg2 hh2 => ?_)
  have b2 : Below W.heap.size W W2 := grown_below b1 hg2 hg1
  have hglt : g < W2.heap.size := hh2.lt
  have L2 : LS w0 W2 (KpG l16 g) b A h jo (l16.getD 12 undef) all sure := L.grow b2 (fun k hk => hk.elim (fun e => .inl (.inl e)) (fun e => e.elim (fun e => .inl (.inr e)) (fun e => .inr (by subst e; exact ⟨hg1, hglt⟩))))
  have ra2 := row_below ra b2
  have rs2 := row_below rs b2
  have hK1 : ∀ k, (l16.getD 4 undef).ownBlock = some k → KpG l16 g k := fun k e => .inl e
  have hK2 : ∀ k, (l16.getD 7 undef).ownBlock = some k → KpG l16 g k := fun k e => .inr (.inl e)
  have hKg : KpG l16 g g := .inr (.inr rfl)
  have hgw : w0.heap.size ≤ g := Nat.le_trans L.bl.size hg1
  refine ⟨fun _ W3 => ∃ A3 h3 x vk, LS w0 W3 (KpG l16 g) b A3 h3 jo (l16.getD 12 undef) all sure ∧ (∀ k, KpG l16 g k → k ≠ g → W3.heap[k]? = W2.heap[k]?) ∧ Holds W3 g 67 (opC x.k x.s x.n vk) ∧ OpCells w0.heap.size W3 (opC x.k x.s x.n vk) x ∧ (x.s.length ≤ 200 ∧ x.keep.length ≤ 50) ∧ (i = l.length → A3.lost = 0 ∧ A3.armed = 0 ∧ x.k = 4), ?_, ?_⟩
  · unfold pre_9_23
    have ho2 := ho.below L2.bl
    obtain ⟨va, vc, hve⟩ := ho2.len
    subst hve
    rw [hiv]
    by_cases hlt : i < l.length
    · obtain ⟨bb, o, c, vk, he, hrk, hcs, c0, c1, c2, c3⟩ := ho2.at hlt
      cases he
      have hix := idxOp (b := bb) (o := o) (c := vc) hlt W2
      have hld := loadOp c0 c1 c2 c3
      repeat (any_goals (first
      | (with_reducible ((refine idCond ?_); refine yN ?_))
      | ((with_reducible refine idO ?_); (with_reducible refine oM_gen fun Kv hK=>?_); simp [go_sem, hix]; refine hK _ _ ?_; clear hK; clear Kv)))
      rw [oM_load, hld, rM_ok]
      obtain ⟨ad', c', rfl, _⟩ := id hrk
      refine arr_store sz_op (x := .agg #[.int .i64 l[i].k, bsV l[i].s, .int .i64 l[i].n, .slice ad' l[i].keep.length c']) (xs := opC l[i].k l[i].s l[i].n (.slice ad' l[i].keep.length c')) rfl rfl op_one hh2 rfl (fun W3 hg3 hh3 => ?_)
      have L3 := L2.write (S := fun k => some g = some k) ((Fr.refl _ _).by hg3 (fun i e => .inl e)) h6 (fun k hk => by cases hk; exact ⟨hKg, hgw⟩)
      exact ⟨A, h, l[i], _, L3, fun k hk hne => hg3.block k (L2.kp k hk).1 (fun e => hne (by cases e; rfl)), hh3, hcs.below (Cd.below_of_grown hg3 L2.bl.size (fun k hk => by cases hk; exact hgw)), hl.2 _ (List.getElem_mem hlt), fun e => by omega⟩
    · have hil : i = l.length := by omega
      repeat (any_goals (first
      | (with_reducible ((refine idCond ?_); refine yO ?_))
      | ((with_reducible refine idO ?_); (with_reducible refine oM_gen fun Kv hK=>?_); simp [go_sem]; refine hK _ _ ?_; clear hK; clear Kv)))
      refine lose_ok L2.s.d 0 (by omega) (fun W3 d3 t3 => ?_)
      obtain ⟨L3, hk3⟩ := L2.disk d3 t3 (L2.g.lose 0 (by omega))
      skip
      refine arm_ok L3.s.d 0 (by omega) (v := .slice none 0 0) (l := []) ⟨none, 0, rfl, fun _ => ⟨rfl, rfl⟩, .inl rfl⟩ (by simp) (fun x hx => by cases hx) (fun W4 h4 d4 t4 => ?_)
      obtain ⟨L4, hk4⟩ := L3.disk d4 t4 (L3.g.arm 0 (by omega) [] (fun x hx => by cases hx) (by simp))
      skip
      refine ⟨_, h4, ⟨4, [], 0, keep⟩, .slice ad keep.length cp, L4, fun k hk _ => (hk4 k hk).trans (hk3 k hk), holds_keep (holds_keep hh2 hk3 hKg) hk4 hKg, ⟨⟨_, rfl, hr.below L4.bl⟩, ⟨show (-2 : Int) ^ 63 ≤ 4 by decide, show (4 : Int) < 2 ^ 63 by decide⟩, ⟨show (-2 : Int) ^ 63 ≤ 0 by decide, show (0 : Int) < 2 ^ 63 by decide⟩, hkr⟩, ⟨by simp, hkl⟩, fun _ => ⟨rfl, rfl, rfl⟩⟩
  · rintro l24 _ W3 ⟨A3, h3, x, vk, L3, hk3, hh3, hc3, hx3, fin3⟩
    have na : ∀ k, (l16.getD 4 undef).ownBlock = some k → k ≠ g := fun k e e2 => by have := (owns_own ra e).1; omega
    have ns : ∀ k, (l16.getD 7 undef).ownBlock = some k → k ≠ g := fun k e e2 => by have := (owns_own rs e).1; omega
    exact do_ok hM h6 L3 hh3 hc3 hx3 (owns_keep ra2 (fun k e => hk3 k (hK1 k e) (na k e))) (owns_keep rs2 (fun k e => hk3 k (hK2 k e) (ns k e))) hal hi hl.1 (ho.below L3.bl) hiv fin3
set_option maxHeartbeats 1000000 in
theorem lasts_ok {l : List JOp} {keep : List Int} {a0 a1 : Value} (hl : Cd.Laid w) (ho : OpRow w.heap.size w a0 l) (hll : l.length ≤ 9223372036854775807) (hr : RowN intC w.heap.size w a1 keep) (hkr : ∀ y ∈ keep, InN y) (k : ∀ w', Below w.heap.size w w' → K (.bool true) w') : callM Tryd.prog 9 #[a0, a1] K w := by
  apply sh_9_ok
  unfold sh_9
  refine sane_ok hl (fun w0 b0 => ?_)
  have h6 : 6 ≤ w0.heap.size := Nat.le_trans hl.size b0.size
  have ho0 : OpRow w0.heap.size w0 a0 l := (ho.below b0).mono b0.size
  have hr0 : RowN intC w0.heap.size w0 a1 keep := (hr.below b0).mono b0.size
  refine few_ok ho0 hll (fun t hfew => ?_)
  obtain ⟨ad, cp, rfl, hadn, hrc⟩ := id hr0
  cases t with
  | false =>
    repeat (any_goals (first
    | (with_reducible first|((refine idGd ?_); refine zD ?_)|((refine idPick ?_); refine yB ?_)|((refine idCond ?_); refine yL ?_))
    | ((with_reducible refine idO ?_); (with_reducible refine oM_gen fun Kv hK=>?_); simp [go_sem]; refine hK _ _ ?_; clear hK; clear Kv)))
    exact k _ b0
  | true =>
    have hl0 := hfew rfl
    by_cases hk : 50 < keep.length
    · repeat (any_goals (first
      | (with_reducible first|refine pureM_in ?_|((refine idGd ?_); refine zC ?_)|((refine idPick ?_); refine yC ?_)|((refine idCond ?_); refine yN ?_))
      | ((with_reducible refine idO ?_); (with_reducible refine oM_gen fun Kv hK=>?_); simp [go_sem]; refine hK _ _ ?_; clear hK; clear Kv)))
      exact k _ b0
    repeat (any_goals (first
    | (with_reducible first|refine pureM_in ?_|((refine idGd ?_); refine zC ?_)|((refine idPick ?_); refine yC ?_)|((refine idCond ?_); refine yO ?_))
    | ((with_reducible refine idO ?_); (with_reducible refine oM_gen fun Kv hK=>?_); simp [go_sem]; refine hK _ _ ?_; clear hK; clear Kv)))
    refine newSys_ok (hl.below b0 hl.size) (fun w1 b h1 s1 b1 o1 => ?_)
    repeat (any_goals (first
    | (with_reducible ((refine idCond ?_); refine yM ?_))
    | ((with_reducible refine idO ?_); (with_reducible refine oM_gen fun Kv hK=>?_); simp [go_sem]; refine hK _ _ ?_; clear hK; clear Kv)))
    refine openJ_ok s1 3 (fun w2 h2 r s2 t2 o2 => ?_)
    have e1 := sane1.1
    have hos := (open_spec (f := 3) (good_start 3) (by omega)).2
    rw [e1] at o2 hos
    obtain ⟨p, v, rfl, jn2, hj2⟩ := o2
    rcases hos with ⟨hn, _⟩ | ⟨j, ej, e0, hbr, hp1, hp2, hlive⟩
    · cases hn
    cases ej
    have b2 : Below w0.heap.size w1 w2 := below_of_step t2 o1 b1.size
    have b12 : Below w0.heap.size w0 w2 := b1.trans b2
    have o2' := own_step t2 o1 b1.size
    repeat (any_goals (first
    | (with_reducible ((refine idCond ?_); refine yM ?_))
    | ((with_reducible refine idO ?_); (with_reducible refine oM_gen fun Kv hK=>?_); simp [go_sem]; refine hK _ _ ?_; clear hK; clear Kv)))
    refine ⟨fun vs W => ∃ i : Nat, vs.getD 14 undef = .int .i64 (i : Int) ∧ i ≤ l.length + 1 ∧ LM w0 b i vs W, fun vs _ => match vs.getD 14 undef with | .int _ n => l.length + 1 - n.toNat | _ => 0, ⟨0, rfl, by omega, _, h2, some ⟨[], 0, false⟩, [], [], ⟨s2, .inl ⟨rfl, hlive⟩, ⟨p, v, rfl, jn2, fun i hi => ⟨Nat.le_trans b1.size (hj2 i hi), fun h => by rcases h with h | h <;> cases h⟩⟩, o2', b12, fun k hk => by rcases hk with h | h <;> cases h⟩, ⟨rfl, .inl ⟨rfl, rfl⟩⟩, ⟨rfl, .inl ⟨rfl, rfl⟩⟩, Nat.le_refl _⟩, ?_⟩
    rintro l16 _ W ⟨i, hiv, hi, hL⟩
    unfold loop_9_14
    obtain ⟨va, vc, hve⟩ := ho0.len
    subst hve
    rw [hiv]
    have hl25 := hl0.1
    by_cases hle : i ≤ l.length
    · repeat (any_goals (first
      | (with_reducible ((refine idCond ?_); refine yN ?_))
      | ((with_reducible refine idO ?_); (with_reducible refine oM_gen fun Kv hK=>?_); simp [go_sem]; refine hK _ _ ?_; clear hK; clear Kv)))
      refine ⟨fun vs W' => LM w0 b (i + 1) vs W', turn_ok (fun _ _ h => h) h6 hL hle hl0 ho0 hr0 hkr (by omega) hiv, ?_⟩
      rintro l20 _ W' hL'
      unfold post_9_19
      rw [hiv]
      repeat (any_goals ((with_reducible refine idO ?_); (with_reducible refine oM_gen fun Kv hK=>?_); simp [go_sem]; (try simp (disch := omega) only [wrapI64, wrapU8, wrapU32, wrapU64]); refine hK _ _ ?_; clear hK; clear Kv))
      exact ⟨⟨i + 1, rfl, by omega, hL'⟩, by show _ < (match l16.getD 14 undef with | .int _ n => l.length + 1 - n.toNat | _ => 0); rw [hiv]; simp; omega⟩
    · repeat (any_goals (first
      | (with_reducible ((refine idCond ?_); refine yO ?_))
      | ((with_reducible refine idO ?_); (with_reducible refine oM_gen fun Kv hK=>?_); simp [go_sem]; refine hK _ _ ?_; clear hK; clear Kv)))
      obtain ⟨A, h, jo, all, sure, L, _⟩ := hL
      exact k _ (b0.trans (L.bl.mono b0.size))
end
end Go.Proofs
