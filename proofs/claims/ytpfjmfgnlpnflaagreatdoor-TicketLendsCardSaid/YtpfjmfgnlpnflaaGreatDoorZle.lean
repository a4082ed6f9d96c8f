/- Parts of the proof of the seat's statements (FoD, HRa, HRb, RfA, RfB, RfC, RfD, RfE, RfF, RfG, RfH, RfI, TcF, RgA, FqA, FoE, FoF, FoG, FoH, FoI, FqB, FqC, FqG, FqI, FqJ, FqK0, HiSpec, HiExp, HiLaw, HiDot, HiCore, CoSpec, FqD, FqE, FqF, CoLaw, CoLaw2, CoLaw3, FqL, FoJ, FoK, FdPoly, FdInv, FdThr, PrUnit, GrLaw, FdPr, GrPr, TpA, TpB, TpC, TpD, TpE, TpF, TpG, TpH, TpI, TpJ, TpK, TpL, TpM, TzA): lemmas about the given translation and plain laws. No condition of their own. -/
import Derived.Test.YtpfjmfgnlpnflaaGreatDoorZld
import Derived.Test.YtpfjmfgnlpnflaaGreatDoorMrf
import Derived.Test.YtpfjmfgnlpnflaaGreatDoorProg
import Derived.Laws.IdiomStrings
set_option linter.all false
set_option maxRecDepth 100000
namespace Go.Proofs
open Go Go.Sh Go.RowKit FdSpec TkSpec CodeSpec
set_option linter.unusedSimpArgs false
set_option linter.unusedVariables false
set_option maxRecDepth 10000
section
variable {K : Value → World → Prop} {w w0 : World} {L : List (Addr × Value)}
theorem build_stp2 (T : TypeId) (g : Grp) (b : Int) : oM Tryz.prog (Go.Op.build 32 #[(0, (.tmp 0)), (2, (.tmp 1))]) T [grpV g, .int .i64 b] = pureM (stpV ⟨g, [], b⟩ (.slice none 0 0)) := by
  funext K w
  kernel_rfl
theorem store_stp {K : Value → World → Prop} {T' : TypeId} {g : Nat} (s : Stp) (ad : Option Addr) (n c : Nat) (hk : KnM w0 L g 5 w)
    (k : ∀ W, KnM w0 L g 5 W → cellsAre W (cellsOf [] g 0 (stpC s (.slice ad n c))) → w.grownBy W (some g) → K undef W) : oM Tryz.prog (.store 32 (.tmp 0) (.tmp 1)) T' [.pointer (some ⟨g, 0, none⟩), stpV s (.slice ad n c)] K w := by
  obtain ⟨W, e, hg, hm, hc⟩ := store_run (P := Tryz.prog) (W := w) sz_stp (x := stpV s (.slice ad n c)) rfl rfl (stp_one s ad n c) hk.mine
  rw [oM_store, e]
  exact k W ⟨hk.kn.wrote hg hk.base hk.off, hm, hk.base, hk.off⟩ hc hg
theorem zS_R {v : Value} (hT : DbT w) (hi : Ints w v []) : SetR w zS v := ⟨⟨by constructor <;> decide, by constructor <;> decide, by constructor <;> decide⟩, hi, by constructor <;> decide, hT⟩
theorem Make_ok (g : Grp) (m : Mir) {mv : Value} (hg : GrpR g) (hT : DbT w) (hm : MirR w m mv)
    (k : ∀ w' sv, Below w.heap.size w w' → SetR w' (makeM g m).1 sv → (∀ i, Value.inBlock sv = some i → w.heap.size ≤ i) → K (.tuple #[stpV (makeM g m).1 sv, .bool (makeM g m).2]) w') : callM Tryz.prog 63 #[grpV g, mirV m mv] K w := by
  apply sh_63_ok
  unfold sh_63
  have hms := hm.ints
  obtain ⟨ad, c, rfl⟩ := hm.ints.isSlice
  have k2 : ∀ w' sv r, makeM g m = r → Below w.heap.size w w' → SetR w' r.1 sv → (∀ i, Value.inBlock sv = some i → w.heap.size ≤ i) → K (.tuple #[stpV r.1 sv, .bool r.2]) w' := fun w' sv r e hb hi hf => by
    rw [← e] at hi ⊢
    exact k w' sv hb hi hf
  clear k
  have hno := makeM_no (g := g) (m := m)
  have hml := hms.len
  refine box_kn (cs := [.int .i64 g.P, .int .i64 g.Q, .int .i64 g.G]) rfl (.start w) fun b1 W hk hb1 hbb => ?_
  refine box_kn (cs := mirC m (.slice ad m.bases.length c)) rfl hk fun b2 W2 hk hb2 hbb => ?_
  refine alloc_mine (n := 5) al_stp rfl hk fun g0 W3 hk hb3 hg0 => ?_
  clear hb1 hb2 hb3
  have bad : makeM g m = (⟨⟨0, 0, 0⟩, [], 0⟩, false) → ∀ w2 (hk : KnM w (cellsOf (cellsOf [] b1 0 [.int .i64 g.P, .int .i64 g.Q, .int .i64 g.G]) b2 0 (mirC m (.slice ad m.bases.length c))) g0 5 w2),
      oM Tryz.prog (Go.Op.store 32 (.tmp 0) (.tmp 1)) 0 [.pointer (some ⟨g0, 0, none⟩), stpV zS (.slice none 0 0)] (fun _ w =>
        ∃ r_29, (do loadVar 32 (← asAddr (.pointer (some ⟨g0, 0, none⟩))) : Sem Value).run Tryz.prog w = .ok r_29 w ∧ K (.tuple #[r_29, (.bool false)]) w) w2 := fun e w2 hk =>
    store_stp zS none 0 0 hk (fun W3 hk hc _ => ⟨_, by simp [go_sem, hc], k2 _ _ _ e hk.below (zS_R (hT.next hk.below) (Ints.nil _)) (fun i h => by cases h)⟩)
  repeat (any_goals ((with_reducible refine idO ?_); (with_reducible refine oM_gen fun Kv hK=>?_); simp [go_sem, hk.cells]; refine hK _ _ ?_; clear hK; clear Kv))
  refine ValidGroup_ok g hg (hT.next hk.below) (fun w2 h2 => ?_)
  have hk := hk.next h2
  clear h2
  cases hv : validG g with
  | false =>
    repeat (any_goals (first
    | (with_reducible first|((refine idGd ?_); refine zD ?_)|((refine idPick ?_); refine yB ?_)|((refine idCond ?_); refine yL ?_))
    | ((with_reducible refine idO ?_); (with_reducible refine oM_gen fun Kv hK=>?_); simp [go_sem, hk.cells]; refine hK _ _ ?_; clear hK; clear Kv)))
    exact bad (hno (.inl hv)) _ hk
  | true =>
  by_cases h2 : (m.bases.length : Int) < 2
  · repeat (any_goals (first
    | (with_reducible first|((refine idGd ?_); first|refine zC ?_|refine zD ?_)|((refine idPick ?_); first|refine yB ?_|refine yC ?_)|((refine idCond ?_); refine yL ?_))
    | ((with_reducible refine idO ?_); (with_reducible refine oM_gen fun Kv hK=>?_); simp [go_sem, hk.cells, h2]; refine hK _ _ ?_; clear hK; clear Kv)))
    exact bad (hno (.inr (.inl (by omega)))) _ hk
  by_cases h7 : (7 : Int) < m.bases.length
  · repeat (any_goals (first
    | (with_reducible first|((refine idGd ?_); first|refine zC ?_|refine zD ?_)|((refine idPick ?_); first|refine yB ?_|refine yC ?_)|((refine idCond ?_); refine yL ?_))
    | ((with_reducible refine idO ?_); (with_reducible refine oM_gen fun Kv hK=>?_); simp [go_sem, hk.cells, h2, h7]; refine hK _ _ ?_; clear hK; clear Kv)))
    exact bad (hno (.inr (.inr (.inl (by omega))))) _ hk
  repeat (any_goals (first
  | (with_reducible first|refine pureM_in ?_|((refine idGd ?_); refine zC ?_)|((refine idPick ?_); refine yC ?_))
  | ((with_reducible refine idO ?_); (with_reducible refine oM_gen fun Kv hK=>?_); simp [go_sem, hk.cells, h2, h7]; refine hK _ _ ?_; clear hK; clear Kv)))
  refine ContainsFunc_ok (badN g) (hms.next hk.below) ?_ ?_
  · intro w' x K' T hb _ h'
    refine oM_callv1 (by kernel_rfl) ?_
    have hk := (hk.next hb).cells
    exact bad_ok g x hk.2.2.2.1 h'
  intro w3 h3
  have hk := hk.next h3
  clear h3
  cases ha : m.bases.any (badN g) with
  | true =>
    repeat (any_goals (first
    | (with_reducible first|((refine idGd ?_); refine zD ?_)|((refine idPick ?_); first|refine yB ?_|refine yC ?_)|((refine idCond ?_); refine yL ?_))
    | ((with_reducible refine idO ?_); (with_reducible refine oM_gen fun Kv hK=>?_); simp [go_sem, hk.cells]; refine hK _ _ ?_; clear hK; clear Kv)))
    exact bad (hno (.inr (.inr (.inr (.inl ha))))) _ hk
  | false =>
  repeat (any_goals (first
  | (with_reducible first|refine pureM_in ?_|((refine idGd ?_); refine zC ?_)|((refine idPick ?_); refine yC ?_))
  | ((with_reducible refine idO ?_); (with_reducible refine oM_gen fun Kv hK=>?_); simp [go_sem, hk.cells]; refine hK _ _ ?_; clear hK; clear Kv)))
  refine oM_callv1 (by kernel_rfl) ?_
  refine bad_ok g m.blind hk.cells.2.2.2.1 (fun w4 h4 => ?_)
  have hk := hk.next h4
  clear h4
  cases hb : badN g m.blind with
  | true =>
    repeat (any_goals (first
    | (with_reducible first|((refine idPick ?_); refine yC ?_)|((refine idCond ?_); refine yL ?_))
    | ((with_reducible refine idO ?_); (with_reducible refine oM_gen fun Kv hK=>?_); simp [go_sem, hk.cells]; refine hK _ _ ?_; clear hK; clear Kv)))
    exact bad (hno (.inr (.inr (.inr (.inr hb))))) _ hk
  | false =>
  clear bad hno
  have ey : makeM g m = (⟨g, m.bases.map (powerG g g.G), powerG g g.G m.blind⟩, true) := by
    unfold makeM
    rw [if_pos]
    rw [hv, ha, hb, decide_eq_true (by omega : 2 ≤ m.bases.length), decide_eq_true (by omega : m.bases.length ≤ 7)]; rfl
  repeat (any_goals (with_reducible first|((refine idPick ?_); refine yC ?_)|((refine idCond ?_); refine yM ?_)))
  have hk := hk.drew
  refine ⟨Nx { w4 with drawn := w4.drawn + 1 }, Below.refl _ _, rfl, ?_⟩
  generalize ({ w4 with drawn := w4.drawn + 1 } : World) = W at hk ⊢
  repeat (any_goals ((with_reducible refine idOH ?_); (with_reducible refine oH_of ⟨_, rfl⟩ (fun W0 hW0 => by (refine oM_gen (fun Kv hK => ?_)); simp [go_sem, (hk.next hW0).cells]; (first | exact hK _ _ ⟨rfl, rfl⟩ | exact ⟨by omega, hK _ _ ⟨rfl, rfl⟩⟩)) ?_)))
  refine ⟨Nx, ?_⟩
  apply monoE
  · intro w1 h1
    exact Power_ok g g.G m.blind (fun w2 h2 => ⟨h1.on h2, h2, rfl⟩)
  repeat (apply monoE; focus (intro w9 h9; (repeat (intro v9 e9; try (obtain rfl := e9))); (repeat (any_goals ((with_reducible refine idO ?_); (with_reducible refine oM_gen fun Kv hK=>?_); simp [go_sem, build_stp2]; refine hK _ _ ?_; clear hK; clear Kv))); exact ⟨h9, Below.refl _ _, rfl⟩))
  refine monoR (fun v w' => ∃ g2, v = ptr g2 0 ∧ W.heap.size ≤ g2 ∧ Holds w' g2 32 (stpC zS (.slice none 0 0))) (fun v w w1 hS h => h.imp fun g2 h => ⟨h.1, h.2.1, h.2.2.next hS⟩) ?_ ?_
  · intro w1 h1
    exact arr_alloc al_stp (fun g2 w2 h2 hg2 hh => ⟨h1.on h2, h2, g2, rfl, Nat.le_trans h1.size hg2, hh⟩)
  (intro w9 h9; repeat (intro v9 e9; try (obtain rfl := e9)))
  obtain ⟨g2, rfl, hg2, hh⟩ := e9
  refine arr_store sz_stp (xs := stpC ⟨g, [], powerG g g.G m.blind⟩ (.slice none 0 0)) rfl rfl (stp_one ⟨g, [], powerG g g.G m.blind⟩ none 0 0) hh rfl (fun w10 hg10 hh => ?_)
  have h10 := grown_below h9 hg10 hg2
  have hgW : g0 < W.heap.size := mine_lt hk.mine
  have hoffL := cells_lt hk.cells
  have hk := hk.next h10
  clear hg10 h9
  repeat (any_goals ((with_reducible refine idO ?_); (with_reducible refine oM_gen fun Kv hK=>?_); simp [go_sem, hk.cells]; refine hK _ _ ?_; clear hK; clear Kv))
  have hne : g0 ≠ g2 := by omega
  have hoff : ∀ p ∈ cellsOf (cellsOf [] b1 0 [.int .i64 g.P, .int .i64 g.Q, .int .i64 g.G]) b2 0 (mirC m (.slice ad m.bases.length c)), p.1.block ≠ g2 := fun p hp => by have := hoffL p hp; omega
  have hbase : w.heap.size ≤ g2 := Nat.le_trans hk.base (by omega)
  have hal : (m.bases.map (powerG g g.G)).length = m.bases.length := List.length_map _
  have hrng : ∀ n ∈ m.bases.map (powerG g g.G), I64 n := by
    intro n hn
    obtain ⟨x, _, rfl⟩ := List.mem_map.1 hn
    exact powerG_I64 _ _ _
  have hat : ∀ i (h : i < m.bases.length), powerG g g.G m.bases[i] = (m.bases.map (powerG g g.G))[i]'(by rw [hal]; exact h) := fun i h => by simp
  generalize m.bases.map (powerG g g.G) = al at *
  refine ⟨GrJ w10 g2 32 (fun ov => stpC ⟨g, [], powerG g g.G m.blind⟩ ov) al, grMu m.bases.length, ⟨_, .slice none 0 0, 0, rfl, by omega, .start hh.lt hh⟩, ?_⟩
  have hk0 := hk
  rintro _ _ w6 ⟨u, ov, i, rfl, hi, hgr⟩
  have hk := hk0.fr hgr.fr hoff hne hbase
  by_cases hin : i = m.bases.length
  · have ho := hgr.own
    rw [List.take_of_length_le (by omega)] at ho
    have hints := ho.ints hrng (by omega)
    obtain ⟨g', oc, cur, rfl, hlt, hB, _, _, _, _⟩ := owns_cells ho (by omega)
    repeat (any_goals (first
    | (with_reducible ((refine idCond ?_); refine yO ?_))
    | ((with_reducible refine idO ?_); (with_reducible refine oM_gen fun Kv hK=>?_); simp [go_sem, hgr.holds.are]; refine hK _ _ ?_; clear hK; clear Kv)))
    refine store_stp ⟨g, al, powerG g g.G m.blind⟩ (some ⟨g', 0, none⟩) al.length oc hk (fun W3 hk hc hg3 => ⟨stpV ⟨g, al, powerG g g.G m.blind⟩ (.slice (some ⟨g', 0, none⟩) al.length oc), by simp [go_sem, hc], k2 W3 (.slice (some ⟨g', 0, none⟩) al.length oc) _ ey hk.below ⟨hg, ⟨hints.row.keep hg3.size (fun i hi hlt => hg3.block i hlt ?_), hrng, by show al.length ≤ _; omega⟩, powerG_I64 _ _ _, hT.next hk.below⟩ (fun i h => by have e2 : g' = i := Option.some.inj h; have := hk0.below.size; omega)⟩)
    cases hi
    intro e
    have e2 : g' = g0 := Option.some.inj e
    have := hh.lt
    omega
  · obtain ⟨b8, o8, rfl, hb8', ca, ra, _⟩ := hms.at (i := i) (by omega)
    repeat (any_goals (first
    | (with_reducible ((refine idCond ?_); refine yN ?_))
    | ((with_reducible refine idO ?_); (with_reducible refine oM_gen fun Kv hK=>?_); simp [go_sem, ca _ hk.below]; (first|refine hK _ _ ?_|refine And.intro (by omega) (hK _ _ ?_)); clear hK; clear Kv)))
    have hk := hk.drew
    have hgr := hgr.next (.drawn (B := w6.heap.size))
    refine ⟨Nx { w6 with drawn := w6.drawn + 1 }, Below.refl _ _, rfl, ?_⟩
    generalize ({ w6 with drawn := w6.drawn + 1 } : World) = W6 at hk hgr ⊢
    repeat (any_goals (first
    | (with_reducible refine pureH_in ?_)
    | ((with_reducible refine idOH ?_); (with_reducible refine oH_of ⟨_, rfl⟩ (fun W0 hW0 => by (refine oM_gen (fun Kv hK => ?_)); simp [go_sem, (hk.next hW0).cells, (hgr.next hW0).holds.are]; (first | exact hK _ _ ⟨rfl, rfl⟩ | exact ⟨by omega, hK _ _ ⟨rfl, rfl⟩⟩)) ?_))))
    refine ⟨Nx, ?_⟩
    apply monoE
    · intro w1 h1
      exact Power_ok g g.G _ (fun w2 h2 => ⟨h1.on h2, h2, rfl⟩)
    refine monoR (fun v w' => Ints w' v [powerG g g.G m.bases[i]]) (fun v w w1 hS h => h.next hS) ?_ ?_
    · rintro w1 h1 _ rfl
      exact mk1 _ (powerG_I64 _ _ _) (fun v w2 h2 hi => ⟨h1.on h2, h2, hi⟩)
    rintro w9 h9 _ rfl v9 hi9
    refine gr_append (hgr.next h9) hi9 (by rw [List.length_take]; omega) (fun ad n c w11 hgr => ?_)
    repeat (any_goals ((with_reducible refine idO ?_); (with_reducible refine oM_gen fun Kv hK=>?_); simp [go_sem]; refine hK _ _ ?_; clear hK; clear Kv))
    refine gr_store (i := 3) hgr (show 3 < 5 by decide) (fun w12 hgr => ?_)
    repeat (any_goals ((with_reducible refine idO ?_); (with_reducible refine oM_gen fun Kv hK=>?_); simp [go_sem]; (try simp (disch := omega) only [wrapI64, wrapU8, wrapU32, wrapU64]); refine hK _ _ ?_; clear hK; clear Kv))
    rw [hat i (by omega), take_snoc] at hgr
    refine ⟨⟨_, _, i + 1, rfl, by omega, hgr⟩, ?_⟩
    simp only [grMu_eq]; omega
end
end Go.Proofs
set_option linter.unusedVariables false
set_option maxRecDepth 100000
namespace Go.Proofs
open Go.Sh
end Go.Proofs
set_option linter.unusedVariables false
set_option maxRecDepth 100000
namespace Go.Proofs
open Go.Sh
end Go.Proofs
namespace Go.Proofs
open Go Go.Sh Go.RowKit FdSpec
set_option linter.unusedSimpArgs false
set_option linter.unusedVariables false
set_option maxRecDepth 10000
section
variable {K : Value → World → Prop} {w : World}
end
end Go.Proofs
namespace Go.Proofs
open Go Go.Sh Go.RowKit FdSpec TkSpec
set_option linter.unusedSimpArgs false
set_option linter.unusedVariables false
set_option maxRecDepth 10000
section
variable {K : Value → World → Prop} {w : World}
end
end Go.Proofs
namespace Go.Proofs
open Go Go.Sh Go.RowKit FdSpec TkSpec
set_option linter.unusedSimpArgs false
set_option linter.unusedVariables false
set_option maxRecDepth 10000
section
variable {K : Value → World → Prop} {w : World}
end
end Go.Proofs
namespace Go.Proofs
open Go Go.Sh Go.RowKit FdSpec TkSpec
set_option linter.unusedSimpArgs false
set_option linter.unusedVariables false
set_option maxRecDepth 10000
section
variable {K : Value → World → Prop} {w : World}
@[reducible] def grpC (g : Grp) : List Value := [.int .i64 g.P, .int .i64 g.Q, .int .i64 g.G]
theorem validG_facts {g : Grp} (h : validG g = true) : okN g.P ∧ okN g.Q ∧ 5 ≤ g.Q ∧ 2 ≤ g.G := by
  unfold validG at h
  split at h
  · cases h
  rename_i hn
  exact ⟨⟨by omega, by omega⟩, ⟨by omega, by omega⟩, by omega, by omega⟩
end
end Go.Proofs
namespace Go.Proofs
open Go Go.Sh Go.RowKit ShaSpec
set_option linter.unusedSimpArgs false
set_option linter.unusedVariables false
set_option maxRecDepth 10000
section
variable {K : Value → World → Prop} {w w0 : World}
abbrev OwnW (w : World) (B : Nat) (v : Value) (l : List W) : Prop := w.ownsRow B 200 1 v l.length (ws l)
def WrdR (w : World) (v : Value) (l : List W) : Prop := ∃ ad c, v = .slice ad l.length c ∧ (l = [] ∨ ∃ b o, ad = some ⟨b, o, none⟩ ∧ b < w.heap.size ∧ ∀ i, i < l.length → w.cell? ⟨b, o + i, none⟩ = some (w32 (at' l i)))
theorem WrdR.next {w' : World} {v : Value} {l : List W} (h : WrdR w v l) (hb : Below w.heap.size w w') : WrdR w' v l := by
  obtain ⟨ad, c, rfl, h⟩ := h
  refine ⟨ad, c, rfl, h.imp id ?_⟩
  rintro ⟨b, o, rfl, hlt, hc⟩
  exact ⟨b, o, rfl, Nat.lt_of_lt_of_le hlt hb.size, fun i hi => by rw [hb.cell hlt]; exact hc i hi⟩
theorem WrdR.at {v : Value} {l : List W} (h : WrdR w v l) (hne : 0 < l.length) : ∃ b o c, v = .slice (some ⟨b, o, none⟩) l.length c ∧ ∀ w', Below w.heap.size w w' → ∀ i, i < l.length → w'.cell? ⟨b, o + i, none⟩ = some (w32 (at' l i)) := by
  obtain ⟨ad, c, rfl, h⟩ := h
  rcases h with rfl | ⟨b, o, rfl, hlt, hc⟩
  · simp at hne
  · exact ⟨b, o, c, rfl, fun w' hb i hi => by rw [hb.cell hlt]; exact hc i hi⟩
theorem OwnW.keep {B : Nat} {v : Value} {l : List W} {w' : World} (h : OwnW w B v l) (hb : Below w.heap.size w w') : OwnW w' B v l :=
  owns_keep h (fun i hi => hb.block i (owns_own h hi).1)
@[go_sem] theorem idx_w32 (T : TypeId) (b o n c : Nat) (x : Int) : oM Tryz.prog (.indexAddr 216 (.tmp 0) (.tmp 1)) T [.slice (some ⟨b, o, none⟩) n c, .int .i64 x] = onM (0 ≤ x ∧ x < n) (.pointer (some ⟨b, o + x.toNat, none⟩)) := by
  funext K w
  rw [oM_indexAddr, run_indexAt_slice (h := by kernel_rfl)]
  have hs : (sizeOf (Tryz.prog.elem 216)).run Tryz.prog w = .ok 1 w := by kernel_rfl
  by_cases hi : 0 ≤ x ∧ x < n
  · rw [if_pos hi, hs]
    simp only [Result.andThen, add_none, Nat.mul_one, rM_ok]
    exact propext ⟨fun h => ⟨hi, h⟩, fun h => h.2⟩
  · rw [if_neg hi]
    obtain ⟨e', w', he⟩ := halts Value Tryz.prog .i64 x n .index w
    rw [he]
    exact propext ⟨fun h => h.elim, fun h => hi h.1⟩
abbrev W' := BitVec 32
end
end Go.Proofs
namespace Go.Proofs
open Go Go.Sh Go.RowKit ShaSpec
set_option linter.unusedSimpArgs false
set_option linter.unusedVariables false
set_option maxRecDepth 10000
section
variable {K : Value → World → Prop} {w w0 : World}
def One (x : W) (v : Value) (w' : World) : Prop := ∃ g, v = .slice (some ⟨g, 0, none⟩) 1 1 ∧ g < w'.heap.size ∧ w'.cell? ⟨g, 0, none⟩ = some (w32 x)
theorem One.next {x : W} {v : Value} {w w' : World} (h : One x v w) (hb : Nx w w') : One x v w' := by
  obtain ⟨g, rfl, hlt, hc⟩ := h
  exact ⟨g, rfl, Nat.lt_of_lt_of_le hlt hb.size, by rw [hb.cell hlt]; exact hc⟩
end
end Go.Proofs
namespace Go.Proofs
open Go Go.Sh Go.RowKit ShaSpec
set_option linter.unusedSimpArgs false
set_option linter.unusedVariables false
set_option maxRecDepth 10000
section
variable {K : Value → World → Prop} {w w0 : World}
end
end Go.Proofs
namespace Go.Proofs
open Go Go.Sh Go.RowKit ShaSpec FdSpec TkSpec
set_option linter.unusedSimpArgs false
set_option linter.unusedVariables false
set_option maxRecDepth 10000
section
variable {K : Value → World → Prop} {w w0 : World}
theorem OwnB.keep {B : Nat} {v : Value} {l : List UInt8} {w' : World} (h : OwnB w B v l) (hb : Below w.heap.size w w') : OwnB w' B v l :=
  owns_keep h (fun i hi => hb.block i (owns_own h hi).1)
theorem OwnB.shape {B : Nat} {v : Value} {l : List UInt8} (h : OwnB w B v l) : ∃ ad c, v = .slice ad l.length c := by
  rcases h.2 with ⟨rfl, h0⟩ | ⟨g, cap, cur, rfl, _⟩
  · exact ⟨none, 0, by rw [h0]⟩
  · exact ⟨_, cap, rfl⟩
end
end Go.Proofs
namespace Go.Proofs
open Go Go.Sh Go.RowKit ShaSpec FdSpec TkSpec
set_option linter.unusedSimpArgs false
set_option linter.unusedVariables false
set_option maxRecDepth 10000
section
variable {K : Value → World → Prop} {w w0 : World}
end
end Go.Proofs
namespace Go.Proofs.Cd
open Go Go.Sh Go.RowKit Go.Lib CodeSpec
set_option linter.unusedSimpArgs false
set_option maxRecDepth 10000
end Go.Proofs.Cd
namespace Go.Proofs
open Go Go.Sh Go.RowKit FdSpec TkSpec CodeSpec
set_option linter.unusedSimpArgs false
set_option linter.unusedVariables false
set_option maxRecDepth 10000
section
variable {K : Value → World → Prop} {w w0 : World} {L : List (Addr × Value)}
theorem validS_Q {s : Stp} (h : validS s = true) : 5 ≤ s.g.Q ∧ validG s.g = true ∧ 2 ≤ s.bases.length ∧ s.bases.length ≤ 7 := by
  have hl := validS_len h
  unfold validS at h
  simp only [Bool.and_eq_true, decide_eq_true_eq] at h
  have hg := h.1.1.1.1
  exact ⟨(validG_facts hg).2.2.1, hg, hl⟩
end
end Go.Proofs
namespace Go.Proofs
open Go Go.Sh Go.RowKit FdSpec TkSpec CodeSpec
set_option linter.unusedSimpArgs false
set_option linter.unusedVariables false
set_option maxRecDepth 10000
section
variable {K : Value → World → Prop} {w w0 : World} {L : List (Addr × Value)}
theorem sz_grp (w : World) : (sizeOf 30).run Tryz.prog w = .ok 3 w := by kernel_rfl
theorem al_grp (w : World) : (Instr.alloc 30 true (.tuple #[])).run Tryz.prog w = .ok (.pointer (some ⟨w.heap.size, 0, none⟩)) (w.alloc (.cells [.int .i64 0, .int .i64 0, .int .i64 0].toArray 30)) := by kernel_rfl
theorem grp_one (g : Grp) : ∀ u ∈ grpC g, u.oneCell' = true := by
  intro u hu
  simp only [grpC, List.mem_cons, List.not_mem_nil, or_false] at hu
  rcases hu with rfl | rfl | rfl <;> rfl
theorem local_grpM {K : Value → World → Prop} {T' T2 : TypeId} {g n : Nat} (t : Grp) (hk : KnM w0 L g n w)
    (k : ∀ b W, KnM w0 (cellsOf L b 0 (grpC t)) g n W → Below w.heap.size w W → w.heap.size ≤ b → K (.pointer (some ⟨b, 0, none⟩)) W) :
    oM Tryz.prog (.alloc 30) T' [] (fun v w => oM Tryz.prog (.store 30 (.tmp 0) (.tmp 1)) T2 [v, grpV t] (fun _ w => K v w) w) w :=
  local_knm al_grp rfl sz_grp rfl rfl (grp_one t) hk k
theorem store_grp {K : Value → World → Prop} {T' : TypeId} {g : Nat} (t : Grp) (hk : KnM w0 L g 3 w)
    (k : ∀ W, KnM w0 L g 3 W → cellsAre W (cellsOf [] g 0 (grpC t)) → K undef W) : oM Tryz.prog (.store 30 (.tmp 0) (.tmp 1)) T' [.pointer (some ⟨g, 0, none⟩), grpV t] K w :=
  store_mine sz_grp rfl rfl (grp_one t) hk k
@[reducible] def zG : Grp := ⟨0, 0, 0⟩
theorem build_grp3 (T : TypeId) (a b c : Int) : oM Tryz.prog (Go.Op.build 30 #[(0, (.tmp 0)), (1, (.tmp 1)), (2, (.tmp 2))]) T [.int .i64 a, .int .i64 b, .int .i64 c] = pureM (grpV ⟨a, b, c⟩) := by
  funext K w
  kernel_rfl
theorem fMake_ok (q : Int) (hq : I64 q) (hT : DbT w) (k : ∀ w', Below w.heap.size w w' → K (.tuple #[grpV (makeG q).1, .bool (makeG q).2]) w') : callM Tryz.prog 62 #[.int .i64 q] K w := by
  apply sh_62_ok
  unfold sh_62
  have k2 : ∀ w' r, makeG q = r → Below w.heap.size w w' → K (.tuple #[grpV r.1, .bool r.2]) w' := fun w' r e hb => by rw [← e]; exact k w' hb
  clear k
  refine alloc_mine (n := 3) al_grp rfl (.start w) fun g W hk hb4 hg => ?_
  clear hb4
  by_cases h5 : q < 5
  · have e : makeG q = (zG, false) := by unfold makeG; rw [if_pos (.inl h5)]
    repeat (any_goals (first
    | (with_reducible first|((refine idGd ?_); refine zD ?_)|((refine idPick ?_); refine yB ?_)|((refine idCond ?_); refine yL ?_))
    | ((with_reducible refine idO ?_); (with_reducible refine oM_gen fun Kv hK=>?_); simp [go_sem, h5]; refine hK _ _ ?_; clear hK; clear Kv)))
    exact store_grp zG hk (fun W3 hk hc => ⟨_, by simp [go_sem, hc], k2 _ _ e hk.below⟩)
  by_cases h6 : 1152921504606846976 ≤ q
  · have e : makeG q = (zG, false) := by unfold makeG; rw [if_pos (.inr h6)]
    repeat (any_goals (first
    | (with_reducible first|refine pureM_in ?_|((refine idGd ?_); refine zC ?_)|((refine idPick ?_); refine yC ?_)|((refine idCond ?_); refine yL ?_))
    | ((with_reducible refine idO ?_); (with_reducible refine oM_gen fun Kv hK=>?_); simp [go_sem, h5, h6]; refine hK _ _ ?_; clear hK; clear Kv)))
    exact store_grp zG hk (fun W3 hk hc => ⟨_, by simp [go_sem, hc], k2 _ _ e hk.below⟩)
  have e : makeG q = if validG ⟨2 * q + 1, q, 4⟩ then (⟨2 * q + 1, q, 4⟩, true) else (zG, false) := by unfold makeG; rw [if_neg (by omega)]
  repeat (any_goals (first
  | ((with_reducible refine local_grpM ⟨2 * q + 1, q, 4⟩ hk ?_); intro b7 W7 hk hb7 hg7)
  | (with_reducible first|refine pureM_in ?_|((refine idGd ?_); refine zC ?_)|((refine idPick ?_); refine yC ?_)|((refine idCond ?_); refine yM ?_))
  | ((with_reducible refine idO ?_); (with_reducible refine oM_gen fun Kv hK=>?_); simp [go_sem, h5, h6, build_grp3, hk.cells]; (try simp (disch := omega) only [wrapI64, wrapU8, wrapU32, wrapU64]); refine hK _ _ ?_; clear hK; clear Kv)))
  refine ValidGroup_ok ⟨2 * q + 1, q, 4⟩ ⟨by unfold I64; dsimp only; omega, hq, by unfold I64; dsimp only; omega⟩ (hT.next hk.below) (fun w2 h2 => ?_)
  have hk := hk.next h2
  cases hv : validG ⟨2 * q + 1, q, 4⟩ with
  | false =>
    rw [hv, if_neg (by decide)] at e
    repeat (any_goals (first
    | (with_reducible ((refine idCond ?_); refine yM ?_))
    | ((with_reducible refine idO ?_); (with_reducible refine oM_gen fun Kv hK=>?_); simp [go_sem, hk.cells]; refine hK _ _ ?_; clear hK; clear Kv)))
    exact store_grp zG hk (fun W3 hk hc => ⟨_, by simp [go_sem, hc], k2 _ _ e hk.below⟩)
  | true =>
    rw [hv, if_pos rfl] at e
    repeat (any_goals (first
    | (with_reducible ((refine idCond ?_); refine yL ?_))
    | ((with_reducible refine idO ?_); (with_reducible refine oM_gen fun Kv hK=>?_); simp [go_sem, hk.cells]; refine hK _ _ ?_; clear hK; clear Kv)))
    exact store_grp ⟨2 * q + 1, q, 4⟩ hk (fun W3 hk hc => ⟨_, by simp [go_sem, hc], k2 _ _ e hk.below⟩)
structure Cas where
  q : Int
  m : Mir
  x : Int
  w : Int
  attrs : List Int
  b : Bld
@[reducible] def casV (c : Cas) (mv av yv : Value) : Value := .agg #[.int .i64 c.q, mv, .int .i64 c.m.blind, .int .i64 c.x, .int .i64 c.w, av, .int .i64 c.b.s, .int .i64 c.b.u, .int .i64 c.b.v, yv]
@[reducible] def casC (c : Cas) (mv av yv : Value) : List Value := [.int .i64 c.q, mv, .int .i64 c.m.blind, .int .i64 c.x, .int .i64 c.w, av, .int .i64 c.b.s, .int .i64 c.b.u, .int .i64 c.b.v, yv]
structure CasR (w : World) (c : Cas) (mv av yv : Value) : Prop where
  q : I64 c.q
  m : MirR w c.m mv
  x : I64 c.x
  wn : I64 c.w
  attrs : Ints w av c.attrs
  b : BldR w c.b yv
theorem CasR.next {w1 : World} {c : Cas} {mv av yv : Value} (h : CasR w c mv av yv) (hb : Below w.heap.size w w1) : CasR w1 c mv av yv := ⟨h.q, h.m.next hb, h.x, h.wn, h.attrs.next hb, h.b.next hb⟩
def smallM (c : Cas) : Bool := decide (c.m.bases.length ≤ 9) && (decide (c.attrs.length ≤ 9) && decide (c.b.ys.length ≤ 9))
theorem small_ok (c : Cas) {mv av yv : Value} (hc : CasR w c mv av yv) (k : ∀ w', Below w.heap.size w w' → K (.bool (smallM c)) w') : callM Tryz.prog 23 #[casV c mv av yv] K w := by
  apply sh_23_ok
  unfold sh_23
  obtain ⟨mad, mc, rfl⟩ := hc.m.ints.isSlice
  obtain ⟨aad, ac, rfl⟩ := hc.attrs.isSlice
  obtain ⟨yad, yc, rfl⟩ := hc.b.ys.isSlice
  refine box_kn (cs := casC c (.slice mad c.m.bases.length mc) (.slice aad c.attrs.length ac) (.slice yad c.b.ys.length yc)) rfl (.start w) fun b1 W hk hb1 hbb => ?_
  have k := k _ hk.below
  unfold smallM at k
  by_cases h1 : (c.m.bases.length : Int) ≤ 9
  rotate_left
  · rw [decide_eq_false (by omega : ¬ c.m.bases.length ≤ 9), Bool.false_and] at k
    repeat (any_goals (first
    | (with_reducible first|((refine idGd ?_); refine zB ?_)|((refine idPick ?_); refine yC ?_))
    | ((with_reducible refine idO ?_); (with_reducible refine oM_gen fun Kv hK=>?_); simp [go_sem, hk.cells, h1]; refine hK _ _ ?_; clear hK; clear Kv)))
    exact k
  rw [decide_eq_true (by omega : c.m.bases.length ≤ 9), Bool.true_and] at k
  by_cases h2 : (c.attrs.length : Int) ≤ 9
  rotate_left
  · rw [decide_eq_false (by omega : ¬ c.attrs.length ≤ 9), Bool.false_and] at k
    repeat (any_goals (first
    | (with_reducible first|((refine idGd ?_); first|refine zA ?_|refine zB ?_)|((refine idPick ?_); first|refine yB ?_|refine yC ?_))
    | ((with_reducible refine idO ?_); (with_reducible refine oM_gen fun Kv hK=>?_); simp [go_sem, hk.cells, h1, h2]; refine hK _ _ ?_; clear hK; clear Kv)))
    exact k
  rw [decide_eq_true (by omega : c.attrs.length ≤ 9), Bool.true_and] at k
  by_cases h3 : (c.b.ys.length : Int) ≤ 9
  · rw [decide_eq_true (by omega : c.b.ys.length ≤ 9)] at k
    repeat (any_goals (first
    | (with_reducible first|((refine idGd ?_); refine zA ?_)|((refine idPick ?_); refine yB ?_))
    | ((with_reducible refine idO ?_); (with_reducible refine oM_gen fun Kv hK=>?_); simp [go_sem, hk.cells, h1, h2, h3]; refine hK _ _ ?_; clear hK; clear Kv)))
    exact k
  · rw [decide_eq_false (by omega : ¬ c.b.ys.length ≤ 9)] at k
    repeat (any_goals (first
    | (with_reducible first|((refine idGd ?_); refine zA ?_)|((refine idPick ?_); refine yB ?_))
    | ((with_reducible refine idO ?_); (with_reducible refine oM_gen fun Kv hK=>?_); simp [go_sem, hk.cells, h1, h2, h3]; refine hK _ _ ?_; clear hK; clear Kv)))
    exact k
end
end Go.Proofs
namespace Go.Proofs
open Go Go.Sh Go.RowKit FdSpec TkSpec CodeSpec
set_option linter.unusedSimpArgs false
set_option linter.unusedVariables false
set_option maxRecDepth 10000
section
variable {K : Value → World → Prop} {w w0 : World} {L : List (Addr × Value)}
end
end Go.Proofs
namespace Go.Proofs
open Go Go.Sh Go.RowKit FdSpec TkSpec CodeSpec
set_option linter.unusedSimpArgs false
set_option linter.unusedVariables false
set_option maxRecDepth 10000
section
variable {K : Value → World → Prop} {w w0 : World} {L : List (Addr × Value)}
@[reducible] def sesV (x : Ses) (v : Value) : Value := .agg #[v, .int .i64 x.offer.z, .int .i64 x.offer.a, .int .i64 x.offer.b, .int .i64 x.c, .int .i64 x.r]
@[reducible] def sesC (x : Ses) (v : Value) : List Value := [v, .int .i64 x.offer.z, .int .i64 x.offer.a, .int .i64 x.offer.b, .int .i64 x.c, .int .i64 x.r]
structure SesR (w : World) (x : Ses) (v : Value) : Prop where
  attrs : Ints w v x.attrs
  offer : OffR x.offer
  c : I64 x.c
  r : I64 x.r
theorem SesR.next {w1 : World} {x : Ses} {v : Value} (h : SesR w x v) (hb : Below w.heap.size w w1) : SesR w1 x v := ⟨h.attrs.next hb, h.offer, h.c, h.r⟩
end
end Go.Proofs
namespace Go.Proofs
open Go Go.Sh Go.RowKit FdSpec TkSpec CodeSpec
set_option linter.unusedSimpArgs false
set_option linter.unusedVariables false
set_option maxRecDepth 10000
section
variable {K : Value → World → Prop} {w w0 : World} {L : List (Addr × Value)}
end
end Go.Proofs
namespace Go.Proofs
open Go Go.Sh Go.RowKit FdSpec TkSpec CodeSpec
set_option linter.unusedSimpArgs false
set_option linter.unusedVariables false
set_option maxRecDepth 10000
section
variable {K : Value → World → Prop} {w w0 : World} {L : List (Addr × Value)}
theorem use_len {s : Stp} {l : List Int} {b : Bld} {dare : Int} (h : (useM s l b dare).2 = true) : (useM s l b dare).1.answers.length = s.bases.length ∧ (useM s l b dare).1.dare = dare ∧ l.length + 1 = s.bases.length := by
  cases hu : (usableM s l).2 with
  | false => rw [useM_no (.inl hu)] at h; cases h
  | true =>
  cases hb : blindsM s b with
  | false => rw [useM_no (.inr (.inl hb))] at h; cases h
  | true =>
  cases hn : numsM s 1 [dare] with
  | false => rw [useM_no (.inr (.inr hn))] at h; cases h
  | true =>
  rw [useM_yes hu hb hn]
  have := usable_len hu
  have := blinds_len hb
  refine ⟨?_, rfl, this ▸ by omega⟩
  show (ansL s l b dare).length = _
  unfold ansL
  rw [List.length_map, List.length_zip]
  show min (l.length + 1) _ = _
  omega
theorem finish_R (s : Stp) (key : Int) (l : List Int) (o : Off) (b : Bld) (r : Int) : TktR (finishM s key l o b r).1 := by
  have h0 : TktR zT := ⟨by constructor <;> decide, by constructor <;> decide, by constructor <;> decide, by constructor <;> decide, by constructor <;> decide, by constructor <;> decide⟩
  unfold finishM
  split
  · exact h0
  split
  · exact h0
  split
  · exact h0
  · have h := askTkt_R s l o b
    exact ⟨h.mark, h.first, h.z, h.a, h.b, addM_I64 _ _ _⟩
end
end Go.Proofs
namespace Go.Proofs
open Go Go.Sh Go.RowKit FdSpec TkSpec CodeSpec
set_option linter.unusedSimpArgs false
set_option linter.unusedVariables false
set_option maxRecDepth 10000
section
variable {K : Value → World → Prop} {w w0 : World} {L : List (Addr × Value)}
end
end Go.Proofs
namespace Go.Proofs
open Go Go.Sh Go.RowKit FdSpec TkSpec CodeSpec
set_option linter.unusedSimpArgs false
set_option linter.unusedVariables false
set_option maxRecDepth 10000
section
variable {K : Value → World → Prop} {w w0 : World} {L : List (Addr × Value)}
end
end Go.Proofs
namespace Go.Proofs
open Go Go.Sh Go.RowKit FdSpec TkSpec CodeSpec
set_option linter.unusedSimpArgs false
set_option linter.unusedVariables false
set_option maxRecDepth 10000
section
variable {K : Value → World → Prop} {w w0 : World} {L : List (Addr × Value)}
theorem local_stpM {K : Value → World → Prop} {T' T2 : TypeId} {g n : Nat} (s : Stp) (ad : Option Addr) (m c : Nat) (hk : KnM w0 L g n w)
    (k : ∀ b W, KnM w0 (cellsOf L b 0 (stpC s (.slice ad m c))) g n W → Below w.heap.size w W → w.heap.size ≤ b → K (.pointer (some ⟨b, 0, none⟩)) W) :
    oM Tryz.prog (.alloc 32) T' [] (fun v w => oM Tryz.prog (.store 32 (.tmp 0) (.tmp 1)) T2 [v, stpV s (.slice ad m c)] (fun _ w => K v w) w) w :=
  local_knm al_stp rfl sz_stp rfl rfl (stp_one s ad m c) hk k
def madeM (c : Cas) : Stp × Bool := if (makeG c.q).2 then makeM (makeG c.q).1 c.m else (zS, false)
theorem makeG_R {q : Int} (hq : I64 q) : GrpR (makeG q).1 := by
  have hz : GrpR ⟨0, 0, 0⟩ := ⟨by constructor <;> decide, by constructor <;> decide, by constructor <;> decide⟩
  unfold makeG
  split
  · exact hz
  · rename_i h
    split
    · exact ⟨by unfold I64; dsimp only; omega, hq, by unfold I64; dsimp only; omega⟩
    · exact hz
theorem made_ok (c : Cas) {mv av yv : Value} (hT : DbT w) (hc : CasR w c mv av yv) (k : ∀ w' sv, Below w.heap.size w w' → SetR w' (madeM c).1 sv → (∀ i, Value.inBlock sv = some i → w.heap.size ≤ i) → K (.tuple #[stpV (madeM c).1 sv, .bool (madeM c).2]) w') : callM Tryz.prog 22 #[casV c mv av yv] K w := by
  apply sh_22_ok
  unfold sh_22
  have hm := hc.m
  obtain ⟨mad, mc, rfl⟩ := hc.m.ints.isSlice
  obtain ⟨aad, ac, rfl⟩ := hc.attrs.isSlice
  obtain ⟨yad, yc, rfl⟩ := hc.b.ys.isSlice
  have k2 : ∀ w' sv r, madeM c = r → Below w.heap.size w w' → SetR w' r.1 sv → (∀ i, Value.inBlock sv = some i → w.heap.size ≤ i) → K (.tuple #[stpV r.1 sv, .bool r.2]) w' := fun w' sv r e hb hi hf => by
    rw [← e] at hi ⊢
    exact k w' sv hb hi hf
  clear k
  refine box_kn (cs := casC c (.slice mad c.m.bases.length mc) (.slice aad c.attrs.length ac) (.slice yad c.b.ys.length yc)) rfl (.start w) fun b1 W hk hb1 hbb => ?_
  refine alloc_mine (n := 5) al_stp rfl hk fun g0 W3 hk hb3 hg0 => ?_
  clear hb1 hb3
  have eM : madeM c = if (makeG c.q).2 then makeM (makeG c.q).1 c.m else (zS, false) := rfl
  have hgr := makeG_R hc.q
  repeat (any_goals ((with_reducible refine idO ?_); (with_reducible refine oM_gen fun Kv hK=>?_); simp [go_sem, hk.cells]; refine hK _ _ ?_; clear hK; clear Kv))
  refine fMake_ok c.q hc.q (hT.next hk.below) (fun w2 h2 => ?_)
  have hk := hk.next h2
  clear h2
  generalize (makeG c.q).1 = g at *
  generalize (makeG c.q).2 = ok at *
  iterate 2 (any_goals ((with_reducible refine idO ?_); (with_reducible refine oM_gen fun Kv hK=>?_); simp [go_sem]; refine hK _ _ ?_; clear hK; clear Kv))
  refine local_grpM g hk (fun b7 W7 hk hb7 hg7 => ?_)
  clear hb7
  cases ok with
  | false =>
    rw [if_neg (by decide)] at eM
    repeat (any_goals (first
    | (with_reducible ((refine idCond ?_); refine yL ?_))
    | ((with_reducible refine idO ?_); (with_reducible refine oM_gen fun Kv hK=>?_); simp [go_sem, hk.cells]; refine hK _ _ ?_; clear hK; clear Kv)))
    exact store_stp zS none 0 0 hk (fun W3 hk hc _ => ⟨_, by simp [go_sem, hc], k2 _ _ _ eM hk.below (zS_R (hT.next hk.below) (Ints.nil _)) (fun i h => by cases h)⟩)
  | true =>
  rw [if_pos rfl] at eM
  repeat (any_goals (first
  | (with_reducible ((refine idCond ?_); refine yM ?_))
  | ((with_reducible refine idO ?_); (with_reducible refine oM_gen fun Kv hK=>?_); simp [go_sem, hk.cells]; refine hK _ _ ?_; clear hK; clear Kv)))
  refine Make_ok g c.m hgr (hT.next hk.below) (hm.next hk.below) (fun w4 sv h4 hr hf => ?_)
  have hgl := mine_lt hk.mine
  have hkb := hk.below.size
  have hk := hk.next h4
  clear h4
  obtain ⟨sad, sc, rfl⟩ := hr.ints.isSlice
  have eM : madeM c = ((makeM g c.m).1, (makeM g c.m).2) := eM
  generalize (makeM g c.m).1 = t at *
  generalize (makeM g c.m).2 = q at *
  iterate 2 (any_goals ((with_reducible refine idO ?_); (with_reducible refine oM_gen fun Kv hK=>?_); simp [go_sem]; refine hK _ _ ?_; clear hK; clear Kv))
  refine local_stpM t sad t.bases.length sc hk (fun b8 W8 hk hb8 hg8 => ?_)
  have hr := hr.next hb8
  repeat (any_goals ((with_reducible refine idO ?_); (with_reducible refine oM_gen fun Kv hK=>?_); simp [go_sem, hk.cells]; refine hK _ _ ?_; clear hK; clear Kv))
  refine store_stp t sad t.bases.length sc hk (fun W3 hk hc hg3 => ⟨stpV t (.slice sad t.bases.length sc), by simp [go_sem, hc], k2 W3 (.slice sad t.bases.length sc) _ eM hk.below ⟨hr.grp, ⟨hr.ints.row.keep hg3.size (fun i hi hlt => hg3.block i hlt ?_), hr.ints.rng, hr.ints.len⟩, hr.blind, hT.next hk.below⟩ (fun i hi => Nat.le_trans hkb (hf i hi))⟩)
  have := hf i hi
  intro e
  have e2 : i = g0 := Option.some.inj e
  omega
end
end Go.Proofs
namespace Go.Proofs
open Go Go.Sh Go.RowKit FdSpec TkSpec CodeSpec
set_option linter.unusedSimpArgs false
set_option linter.unusedVariables false
set_option maxRecDepth 10000
section
variable {K : Value → World → Prop} {w w0 : World} {L : List (Addr × Value)}
structure Iss where
  s : Stp
  x : Ses
  t : Tkt
  ok : Bool
def zX : Ses := ⟨[], ⟨0, 0, 0⟩, 0, 0⟩
def issuedM (c : Cas) : Iss :=
  if smallM c && (madeM c).2 then
    if decide ((proposeM (madeM c).1 c.x c.attrs c.w).2 = 0) && decide ((askM (madeM c).1 (publicM (madeM c).1 c.x) c.attrs (proposeM (madeM c).1 c.x c.attrs c.w).1 c.b).2 = 0) then
      ⟨(madeM c).1, ⟨c.attrs, (proposeM (madeM c).1 c.x c.attrs c.w).1, (askM (madeM c).1 (publicM (madeM c).1 c.x) c.attrs (proposeM (madeM c).1 c.x c.attrs c.w).1 c.b).1, grantM (madeM c).1 c.x c.w (askM (madeM c).1 (publicM (madeM c).1 c.x) c.attrs (proposeM (madeM c).1 c.x c.attrs c.w).1 c.b).1⟩,
        (finishM (madeM c).1 (publicM (madeM c).1 c.x) c.attrs (proposeM (madeM c).1 c.x c.attrs c.w).1 c.b (grantM (madeM c).1 c.x c.w (askM (madeM c).1 (publicM (madeM c).1 c.x) c.attrs (proposeM (madeM c).1 c.x c.attrs c.w).1 c.b).1)).1,
        decide ((finishM (madeM c).1 (publicM (madeM c).1 c.x) c.attrs (proposeM (madeM c).1 c.x c.attrs c.w).1 c.b (grantM (madeM c).1 c.x c.w (askM (madeM c).1 (publicM (madeM c).1 c.x) c.attrs (proposeM (madeM c).1 c.x c.attrs c.w).1 c.b).1)).2 = 0)⟩
    else ⟨(madeM c).1, zX, zT, false⟩
  else ⟨(madeM c).1, zX, zT, false⟩
end
end Go.Proofs
namespace Go.Proofs
open Go Go.Sh Go.RowKit FdSpec TkSpec CodeSpec
set_option linter.unusedSimpArgs false
set_option linter.unusedVariables false
set_option maxRecDepth 10000
section
variable {K : Value → World → Prop} {w w0 : World} {L : List (Addr × Value)}
theorem sz_ses (w : World) : (sizeOf 39).run Tryz.prog w = .ok 6 w := by kernel_rfl
theorem al_ses (w : World) : (Instr.alloc 39 true (.tuple #[])).run Tryz.prog w = .ok (.pointer (some ⟨w.heap.size, 0, none⟩)) (w.alloc (.cells (sesC zX (.slice none 0 0)).toArray 39)) := by kernel_rfl
theorem ses_one (x : Ses) (ad : Option Addr) (n c : Nat) : ∀ u ∈ sesC x (.slice ad n c), u.oneCell' = true := by
  intro u hu
  simp only [sesC, List.mem_cons, List.not_mem_nil, or_false] at hu
  rcases hu with rfl | rfl | rfl | rfl | rfl | rfl <;> rfl
structure Res3 (w : World) (B g1 g2 g3 : Nat) (a b c : List Value) : Prop where
  lo : B ≤ g1 ∧ g1 < g2 ∧ g2 < g3
  s : Holds w g1 32 a
  x : Holds w g2 39 b
  t : Holds w g3 41 c
theorem Res3.next {w1 : World} {B g1 g2 g3 : Nat} {a b c : List Value} (h : Res3 w B g1 g2 g3 a b c) (hb : Below w.heap.size w w1) : Res3 w1 B g1 g2 g3 a b c := ⟨h.lo, h.s.next hb, h.x.next hb, h.t.next hb⟩
abbrev Fr3 (g1 g2 g3 : Nat) (w w' : World) : Prop := Fr (fun i => i = g1 ∨ i = g2 ∨ i = g3) w w'
theorem store3 {B g1 g2 g3 : Nat} {a b c : List Value} {T1 T2 T3 : TypeId} (s : Stp) (ad : Option Addr) (n cc : Nat) (x : Ses) (ad2 : Option Addr) (n2 c2 : Nat) (t : Tkt) (q : Bool) (hr : Res3 w B g1 g2 g3 a b c) (la : a.length = 5) (lb : b.length = 6) (lc : c.length = 6)
    (k : ∀ W, Fr3 g1 g2 g3 w W → K (.tuple #[stpV s (.slice ad n cc), sesV x (.slice ad2 n2 c2), tktV t, .bool q]) W) :
    oM Tryz.prog (.store 32 (.tmp 0) (.tmp 1)) T1 [.pointer (some ⟨g1, 0, none⟩), stpV s (.slice ad n cc)] (fun _ w => oM Tryz.prog (.store 39 (.tmp 0) (.tmp 1)) T2 [.pointer (some ⟨g2, 0, none⟩), sesV x (.slice ad2 n2 c2)] (fun _ w => oM Tryz.prog (.store 41 (.tmp 0) (.tmp 1)) T3 [.pointer (some ⟨g3, 0, none⟩), tktV t] (fun _ w =>
      ∃ r1, (do loadVar 32 (← asAddr (.pointer (some ⟨g1, 0, none⟩))) : Sem Value).run Tryz.prog w = .ok r1 w ∧ ∃ r2, (do loadVar 39 (← asAddr (.pointer (some ⟨g2, 0, none⟩))) : Sem Value).run Tryz.prog w = .ok r2 w ∧ ∃ r3, (do loadVar 41 (← asAddr (.pointer (some ⟨g3, 0, none⟩))) : Sem Value).run Tryz.prog w = .ok r3 w ∧ K (.tuple #[r1, r2, r3, .bool q]) w) w) w) w := by
  obtain ⟨h0, h1, h2⟩ := hr.lo
  refine arr_store sz_stp rfl rfl (stp_one s ad n cc) hr.s la (fun W1 hg1 hs => ?_)
  refine arr_store sz_ses rfl rfl (ses_one x ad2 n2 c2) (hr.x.other hg1 (by omega)) lb (fun W2 hg2 hx => ?_)
  refine arr_store sz_tkt rfl rfl (tkt_one t) ((hr.t.other hg1 (by omega)).other hg2 (by omega)) lc (fun W3 hg3 ht => ?_)
  have hs := (hs.other hg2 (by omega)).other hg3 (by omega)
  have hx := hx.other hg3 (by omega)
  refine ⟨stpV s (.slice ad n cc), by simp [go_sem, hs.are], sesV x (.slice ad2 n2 c2), by simp [go_sem, hx.are], tktV t, by simp [go_sem, ht.are], k _ ?_⟩
  have f0 : Fr3 g1 g2 g3 w w := Fr.refl _ _
  exact ((f0.by hg1 (fun i e => .inl (.inl (Option.some.inj e).symm))).by hg2 (fun i e => .inl (.inr (.inl (Option.some.inj e).symm)))).by hg3 (fun i e => .inl (.inr (.inr (Option.some.inj e).symm)))
theorem fr3_below {w1 W : World} {g1 g2 g3 : Nat} (hb : Below w.heap.size w w1) (h : Fr3 g1 g2 g3 w1 W) (h1 : w.heap.size ≤ g1) (h2 : g1 < g2) (h3 : g2 < g3) : Below w.heap.size w W :=
  ⟨h.os.trans hb.os, h.tape.trans hb.tape, h.output.trans hb.output, Nat.le_trans hb.size h.size, fun i hi => (h.block i (Nat.lt_of_lt_of_le hi hb.size) (fun e => by rcases e with rfl | rfl | rfl <;> omega)).trans (hb.block i hi)⟩
theorem ints_fr3 {W : World} {g1 g2 g3 : Nat} {v : Value} {l : List Int} (hi : Ints w v l) (h : Fr3 g1 g2 g3 w W) (hne : ∀ i, Value.inBlock v = some i → i ≠ g1 ∧ i ≠ g2 ∧ i ≠ g3) : Ints W v l :=
  ⟨hi.row.keep h.size (fun i e hlt => h.block i hlt (fun e2 => by have := hne i e; rcases e2 with rfl | rfl | rfl <;> omega)), hi.rng, hi.len⟩
theorem zX_R : SesR w zX (.slice none 0 0) := ⟨Ints.nil _, ⟨by constructor <;> decide, by constructor <;> decide, by constructor <;> decide⟩, by constructor <;> decide, by constructor <;> decide⟩
theorem zT_R : TktR zT := ⟨by constructor <;> decide, by constructor <;> decide, by constructor <;> decide, by constructor <;> decide, by constructor <;> decide, by constructor <;> decide⟩
theorem cells_fr3 {W : World} {g1 g2 g3 : Nat} : ∀ {L : List (Addr × Value)}, cellsAre w L → Fr3 g1 g2 g3 w W → (∀ p ∈ L, p.1.block < w.heap.size ∧ p.1.block ≠ g1 ∧ p.1.block ≠ g2 ∧ p.1.block ≠ g3) → cellsAre W L
  | [], _, _, _ => trivial
  | p :: L, hL, h, hn => by
    obtain ⟨h0, h1, h2, h3⟩ := hn p (by simp)
    exact ⟨(World.cell?_of_block (h.block _ h0 (fun e => by rcases e with e | e | e <;> contradiction))).trans hL.1, cells_fr3 hL.2 h (fun q hq => hn q (by simp [hq]))⟩
end
end Go.Proofs
namespace Go.Proofs
open Go Go.Sh Go.RowKit FdSpec TkSpec CodeSpec
set_option linter.unusedSimpArgs false
set_option linter.unusedVariables false
set_option maxRecDepth 10000
section
variable {K : Value → World → Prop} {w w0 : World} {L : List (Addr × Value)}
theorem propose_R (s : Stp) (x : Int) (l : List Int) (y : Int) : OffR (proposeM s x l y).1 := by
  unfold proposeM
  split
  · exact ⟨powerG_I64 _ _ _, genM_I64 _ _, powerG_I64 _ _ _⟩
  · exact ⟨by constructor <;> decide, by constructor <;> decide, by constructor <;> decide⟩
theorem publicM_I64 (s : Stp) (x : Int) : I64 (publicM s x) := by
  unfold publicM
  split
  · exact genM_I64 _ _
  · constructor <;> decide
theorem askM_I64 (s : Stp) (key : Int) (l : List Int) (o : Off) (b : Bld) : I64 (askM s key l o b).1 := by
  unfold askM
  dsimp only
  split
  · exact mulQ_I64 _ _ _ (by simp)
  · constructor <;> decide
theorem build_ses4 (T : TypeId) (ad : Option Addr) (n cc : Nat) (o : Off) (x y : Int) : oM Tryz.prog (Go.Op.build 39 #[(0, (.tmp 0)), (1, (.tmp 1)), (2, (.tmp 2)), (3, (.tmp 3))]) T [.slice ad n cc, offV o, .int .i64 x, .int .i64 y] = pureM (sesV ⟨[], o, x, y⟩ (.slice ad n cc)) := by
  funext K w
  kernel_rfl
theorem grantM_I64 (s : Stp) (x w c : Int) : I64 (grantM s x w c) := by
  unfold grantM
  split
  · exact addM_I64 _ _ _
  · constructor <;> decide
theorem issued_end {g1 g2 g3 b2 g7 g8 B : Nat} {a b c : List Value} (s : Stp) (ad : Option Addr) (n cc : Nat) (x : Ses) (ad2 : Option Addr) (n2 c2 : Nat) (t : Tkt) (e : Int)
    (hr : Res3 w B g1 g2 g3 a b c) (la : a.length = 5) (lb : b.length = 6) (lc : c.length = 6) (hs : cellsAre w (cellsOf [] b2 0 (stpC s (.slice ad n cc)))) (hx : Holds w g7 39 (sesC x (.slice ad2 n2 c2))) (ht : Holds w g8 41 (tktC t))
    (o2 : b2 ≠ g1 ∧ b2 ≠ g2 ∧ b2 ≠ g3) (o7 : g7 ≠ g1 ∧ g7 ≠ g2 ∧ g7 ≠ g3) (o8 : g8 ≠ g1 ∧ g8 ≠ g2 ∧ g8 ≠ g3)
    (k : ∀ W, Fr3 g1 g2 g3 { w with drawn := w.drawn + 1 } W → K (.tuple #[stpV s (.slice ad n cc), sesV x (.slice ad2 n2 c2), tktV t, .bool (decide (e = 0))]) W) :
    heldM w (fun C w => (oH Tryz.prog (Go.Op.load 32 (.tmp 0)) 32 [.pointer (some ⟨b2, 0, none⟩)] C (fun v92_110 =>
 oH Tryz.prog (Go.Op.load 39 (.tmp 0)) 39 [.pointer (some ⟨g7, 0, none⟩)] C (fun v93_111 =>
 oH Tryz.prog (Go.Op.load 41 (.tmp 0)) 41 [.pointer (some ⟨g8, 0, none⟩)] C (fun v94_112 =>
 pureH (.int .i64 e) C (fun v95_113 =>
 oH Tryz.prog (Go.Op.binOp Go.BinOp.eql 54 (.tmp 0) (.const (.int .i64 0)) 54) 4 [v95_113] C (fun v96_114 =>
 oM Tryz.prog (Go.Op.store 32 (.tmp 0) (.tmp 1)) 0 [.pointer (some ⟨g1, 0, none⟩), v92_110] (fun _ w => C w ∧ (
 oM Tryz.prog (Go.Op.store 39 (.tmp 0) (.tmp 1)) 0 [.pointer (some ⟨g2, 0, none⟩), v93_111] (fun _ w => C w ∧ (
 oM Tryz.prog (Go.Op.store 41 (.tmp 0) (.tmp 1)) 0 [.pointer (some ⟨g3, 0, none⟩), v94_112] (fun _ w => C w ∧ (
 C w ∧ (∃ r_116, (do loadVar 32 (← asAddr (.pointer (some ⟨g1, 0, none⟩))) : Sem Value).run Tryz.prog w = .ok r_116 w ∧ ∃ r_117, (do loadVar 39 (← asAddr (.pointer (some ⟨g2, 0, none⟩))) : Sem Value).run Tryz.prog w = .ok r_117 w ∧ ∃ r_118, (do loadVar 41 (← asAddr (.pointer (some ⟨g3, 0, none⟩))) : Sem Value).run Tryz.prog w = .ok r_118 w ∧ K (.tuple #[r_116, r_117, r_118, v96_114]) w))) w)) w)) w))))))) := by
  have hb : Below w.heap.size w { w with drawn := w.drawn + 1 } := .drawn
  have hr := hr.next hb
  have hall : cellsAre { w with drawn := w.drawn + 1 } (cellsOf (cellsOf (cellsOf [] b2 0 (stpC s (.slice ad n cc))) g7 0 (sesC x (.slice ad2 n2 c2))) g8 0 (tktC t)) := by
    have A := fun {vs : List Value} {g : Nat} {T : TypeId} {L : List (Addr × Value)} (h : Holds { w with drawn := w.drawn + 1 } g T vs) (hL : cellsAre { w with drawn := w.drawn + 1 } L) => cellsOf_are (xs := vs) hL (fun i v hi => by
      obtain ⟨hl, rfl⟩ := List.getElem?_eq_some_iff.1 hi
      exact h.cell i hl) vs 0 rfl
    exact A (ht.next hb) (A (hx.next hb) (cellsAre_keep hs fun a ha => hb.cell ha))
  refine ⟨Fr3 g1 g2 g3 { w with drawn := w.drawn + 1 }, Fr.refl _ _, ?_⟩
  generalize ({ w with drawn := w.drawn + 1 } : World) = W at hr hall k ⊢
  have hoff : ∀ p ∈ cellsOf (cellsOf (cellsOf [] b2 0 (stpC s (.slice ad n cc))) g7 0 (sesC x (.slice ad2 n2 c2))) g8 0 (tktC t), p.1.block < W.heap.size ∧ p.1.block ≠ g1 ∧ p.1.block ≠ g2 ∧ p.1.block ≠ g3 := fun p hp => by
    refine ⟨cells_lt hall p hp, ?_⟩
    rcases cellsOf_mem _ _ _ hp with h | hp
    · rw [h]; exact o8
    rcases cellsOf_mem _ _ _ hp with h | hp
    · rw [h]; exact o7
    rcases cellsOf_mem _ _ _ hp with h | hp
    · rw [h]; exact o2
    · cases hp
  repeat (any_goals (first
  | (with_reducible refine pureH_in ?_)
  | ((with_reducible refine idOH ?_); (with_reducible refine oH_of ⟨_, rfl⟩ (fun W0 hW0 => by (refine oM_gen (fun Kv hK => ?_)); simp [go_sem, (cells_fr3 hall hW0 hoff)]; (first | exact hK _ _ ⟨rfl, rfl⟩ | exact ⟨by omega, hK _ _ ⟨rfl, rfl⟩⟩)) ?_))))
  obtain ⟨h0, h1, h2⟩ := hr.lo
  have f0 : Fr3 g1 g2 g3 W W := Fr.refl _ _
  refine arr_store sz_stp rfl rfl (stp_one s ad n cc) hr.s la (fun W1 hg1 hs => ?_)
  have f0 := f0.by hg1 (fun i e => .inl (.inl (Option.some.inj e).symm))
  refine ⟨f0, ?_⟩
  refine arr_store sz_ses rfl rfl (ses_one x ad2 n2 c2) (hr.x.other hg1 (by omega)) lb (fun W2 hg2 hx => ?_)
  have f0 := f0.by hg2 (fun i e => .inl (.inr (.inl (Option.some.inj e).symm)))
  refine ⟨f0, ?_⟩
  refine arr_store sz_tkt rfl rfl (tkt_one t) ((hr.t.other hg1 (by omega)).other hg2 (by omega)) lc (fun W3 hg3 ht => ?_)
  have f0 := f0.by hg3 (fun i e => .inl (.inr (.inr (Option.some.inj e).symm)))
  have hs := (hs.other hg2 (by omega)).other hg3 (by omega)
  have hx := hx.other hg3 (by omega)
  exact ⟨f0, f0, stpV s (.slice ad n cc), by simp [go_sem, hs.are], sesV x (.slice ad2 n2 c2), by simp [go_sem, hx.are], tktV t, by simp [go_sem, ht.are], k _ f0⟩
theorem issued_ok (c : Cas) {mv av yv : Value} (hT : DbT w) (hL : Cd.Laid w) (hc : CasR w c mv av yv)
    (k : ∀ w' sv xv, Below w.heap.size w w' → SetR w' (issuedM c).s sv → SesR w' (issuedM c).x xv → TktR (issuedM c).t → K (.tuple #[stpV (issuedM c).s sv, sesV (issuedM c).x xv, tktV (issuedM c).t, .bool (issuedM c).ok]) w') : callM Tryz.prog 30 #[casV c mv av yv] K w := by
  apply sh_30_ok
  unfold sh_30
  have hc' := hc
  obtain ⟨mad, mc, rfl⟩ := hc.m.ints.isSlice
  obtain ⟨aad, ac, rfl⟩ := hc.attrs.isSlice
  obtain ⟨yad, yc, rfl⟩ := hc.b.ys.isSlice
  refine box_kn (cs := casC c (.slice mad c.m.bases.length mc) (.slice aad c.attrs.length ac) (.slice yad c.b.ys.length yc)) rfl (.start w) fun b1 W hk hb1 hbb => ?_
  refine arr_alloc al_stp fun g1 w1 h1 hg1 hh1 => ?_
  refine arr_alloc al_ses fun g2 w2 h2 hg2 hh2 => ?_
  refine arr_alloc al_tkt fun g3 w3 h3 hg3 hh3 => ?_
  have hr : Res3 w3 W.heap.size g1 g2 g3 _ _ _ := ⟨⟨hg1, Nat.lt_of_lt_of_le hh1.lt hg2, Nat.lt_of_lt_of_le hh2.lt hg3⟩, (hh1.next h2).next h3, hh2.next h3, hh3⟩
  have hwW := hk.below.size
  have hg3l : g3 < w3.heap.size := hr.t.lt
  have hk := ((hk.next h1).next h2).next h3
  clear h1 h2 h3 hh1 hh2 hh3 hb1
  repeat (any_goals ((with_reducible refine idO ?_); (with_reducible refine oM_gen fun Kv hK=>?_); simp [go_sem, hk.cells]; refine hK _ _ ?_; clear hK; clear Kv))
  refine made_ok c (hT.next hk.below) (hc'.next hk.below) (fun w4 sv h4 hs hf => ?_)
  have hk := hk.next h4
  have hr := hr.next h4
  have hg3w4 := hr.t.lt
  clear h4
  obtain ⟨sad, sc, rfl⟩ := hs.ints.isSlice
  iterate 2 (any_goals ((with_reducible refine idO ?_); (with_reducible refine oM_gen fun Kv hK=>?_); simp [go_sem]; refine hK _ _ ?_; clear hK; clear Kv))
  refine local_stp (madeM c).1 sad (madeM c).1.bases.length sc hk (fun b2 w5 hk h5 hb2 => ?_)
  have hr := hr.next h5
  have hs := hs.next h5
  clear h5
  repeat (any_goals ((with_reducible refine idO ?_); (with_reducible refine oM_gen fun Kv hK=>?_); simp [go_sem, hk.cells]; refine hK _ _ ?_; clear hK; clear Kv))
  refine small_ok c (hc'.next hk.below) (fun w6 h6 => ?_)
  have hk := hk.next h6
  have hr := hr.next h6
  have hs := hs.next h6
  clear h6
  have hlo := hr.lo
  have hwl := hk.below.size
  have bad : issuedM c = ⟨(madeM c).1, zX, zT, false⟩ → ∀ (w7 : World) (a b d : List Value), a.length = 5 → b.length = 6 → d.length = 6 → Below w.heap.size w w7 → SetR w7 (madeM c).1 (.slice sad (madeM c).1.bases.length sc) → Res3 w7 W.heap.size g1 g2 g3 a b d →
      ∀ W9, Fr3 g1 g2 g3 w7 W9 → K (.tuple #[stpV (madeM c).1 (.slice sad (madeM c).1.bases.length sc), sesV zX (.slice none 0 0), tktV zT, .bool false]) W9 := fun e w7 a b d la lb ld hb hs hr W9 hf3 => by
    have hW := fr3_below hb hf3 (by omega) hlo.2.1 hlo.2.2
    have := k W9 (.slice sad (madeM c).1.bases.length sc) (.slice none 0 0) hW
    rw [e] at this
    exact this ⟨hs.grp, ints_fr3 hs.ints hf3 (fun i hi => by have := hf i hi; omega), hs.blind, hT.next hW⟩ zX_R zT_R
  cases hsm : smallM c with
  | false =>
    repeat (any_goals (first
    | (with_reducible first|((refine idGd ?_); refine zD ?_)|((refine idPick ?_); refine yB ?_)|((refine idCond ?_); refine yL ?_))
    | ((with_reducible refine idO ?_); (with_reducible refine oM_gen fun Kv hK=>?_); simp [go_sem, hk.cells]; refine hK _ _ ?_; clear hK; clear Kv)))
    exact store3 (madeM c).1 sad (madeM c).1.bases.length sc zX none 0 0 zT false hr rfl rfl rfl (bad (by unfold issuedM; rw [hsm]; rfl) _ _ _ _ rfl rfl rfl hk.below hs hr)
  | true =>
  cases hmd : (madeM c).2 with
  | false =>
    repeat (any_goals (first
    | (with_reducible first|refine pureM_in ?_|((refine idGd ?_); refine zC ?_)|((refine idPick ?_); refine yC ?_)|((refine idCond ?_); refine yL ?_))
    | ((with_reducible refine idO ?_); (with_reducible refine oM_gen fun Kv hK=>?_); simp [go_sem, hk.cells]; refine hK _ _ ?_; clear hK; clear Kv)))
    exact store3 (madeM c).1 sad (madeM c).1.bases.length sc zX none 0 0 zT false hr rfl rfl rfl (bad (by unfold issuedM; rw [hsm, hmd]; rfl) _ _ _ _ rfl rfl rfl hk.below hs hr)
  | true =>
  repeat (any_goals (first
  | (with_reducible first|refine pureM_in ?_|((refine idGd ?_); refine zC ?_)|((refine idPick ?_); refine yC ?_)|((refine idCond ?_); refine yM ?_))
  | ((with_reducible refine idO ?_); (with_reducible refine oM_gen fun Kv hK=>?_); simp [go_sem, hk.cells]; refine hK _ _ ?_; clear hK; clear Kv)))
  refine Propose_ok (madeM c).1 c.x c.w hc'.x hc'.wn (hs.next (Below.refl _ _)) (hc'.attrs.next hk.below) (fun w7 h7 => ?_)
  have hk := hk.next h7
  have hr := hr.next h7
  have hs := hs.next h7
  clear h7
  have ei : issuedM c = if decide ((proposeM (madeM c).1 c.x c.attrs c.w).2 = 0) && decide ((askM (madeM c).1 (publicM (madeM c).1 c.x) c.attrs (proposeM (madeM c).1 c.x c.attrs c.w).1 c.b).2 = 0) then
      ⟨(madeM c).1, ⟨c.attrs, (proposeM (madeM c).1 c.x c.attrs c.w).1, (askM (madeM c).1 (publicM (madeM c).1 c.x) c.attrs (proposeM (madeM c).1 c.x c.attrs c.w).1 c.b).1, grantM (madeM c).1 c.x c.w (askM (madeM c).1 (publicM (madeM c).1 c.x) c.attrs (proposeM (madeM c).1 c.x c.attrs c.w).1 c.b).1⟩,
        (finishM (madeM c).1 (publicM (madeM c).1 c.x) c.attrs (proposeM (madeM c).1 c.x c.attrs c.w).1 c.b (grantM (madeM c).1 c.x c.w (askM (madeM c).1 (publicM (madeM c).1 c.x) c.attrs (proposeM (madeM c).1 c.x c.attrs c.w).1 c.b).1)).1,
        decide ((finishM (madeM c).1 (publicM (madeM c).1 c.x) c.attrs (proposeM (madeM c).1 c.x c.attrs c.w).1 c.b (grantM (madeM c).1 c.x c.w (askM (madeM c).1 (publicM (madeM c).1 c.x) c.attrs (proposeM (madeM c).1 c.x c.attrs c.w).1 c.b).1)).2 = 0)⟩
    else ⟨(madeM c).1, zX, zT, false⟩ := by
    unfold issuedM
    rw [hsm, hmd]
    rfl
  have hpo : OffR (proposeM (madeM c).1 c.x c.attrs c.w).1 := propose_R _ _ _ _
  generalize (madeM c).1 = s at *
  generalize (proposeM s c.x c.attrs c.w).1 = o at *
  generalize (proposeM s c.x c.attrs c.w).2 = pe at *
  iterate 2 (any_goals ((with_reducible refine idO ?_); (with_reducible refine oM_gen fun Kv hK=>?_); simp [go_sem]; refine hK _ _ ?_; clear hK; clear Kv))
  refine local_off o hk (fun b3 w8 hk h8 hb3 => ?_)
  have hr := hr.next h8
  have hs := hs.next h8
  clear h8
  have hk := hk.drew
  have hr := hr.next (.drawn (B := w8.heap.size))
  have hs := hs.next (.drawn (B := w8.heap.size))
  refine ⟨Nx { w8 with drawn := w8.drawn + 1 }, Below.refl _ _, rfl, ?_⟩
  generalize ({ w8 with drawn := w8.drawn + 1 } : World) = W8 at hk hr hs ⊢
  repeat (any_goals ((with_reducible refine idOH ?_); (with_reducible refine oH_of ⟨_, rfl⟩ (fun W0 hW0 => by (refine oM_gen (fun Kv hK => ?_)); simp [go_sem, (hk.next hW0).cells]; (first | exact hK _ _ ⟨rfl, rfl⟩ | exact ⟨by omega, hK _ _ ⟨rfl, rfl⟩⟩)) ?_)))
  refine ⟨Nx, ?_⟩
  apply monoE
  · intro w1 h1
    exact Public_ok s c.x hc'.x (hs.next h1) (fun w2 h2 => ⟨h1.on h2, h2, rfl⟩)
  apply monoE
  · rintro w1 h1 _ rfl
    exact Ask_ok s (publicM s c.x) o c.b (publicM_I64 _ _) hpo (hs.next h1) (hc'.attrs.next (hk.next h1).below) (hc'.b.next (hk.next h1).below) (hL.below (hk.next h1).below hL.size) (fun w2 h2 => ⟨h1.on h2, h2, rfl⟩)
  repeat (apply monoE; focus (intro w9 h9; (repeat (intro v9 e9; try (obtain rfl := e9))); (repeat (any_goals ((with_reducible refine idO ?_); (with_reducible refine oM_gen fun Kv hK=>?_); simp [go_sem]; refine hK _ _ ?_; clear hK; clear Kv))); exact ⟨h9, Below.refl _ _, rfl⟩))
  (intro w9 h9; repeat (intro v9 e9; try (obtain rfl := e9)))
  have hk := hk.next h9
  have hr := hr.next h9
  have hs := hs.next h9
  clear h9
  have hkey : I64 (publicM s c.x) := publicM_I64 _ _
  generalize hkq : publicM s c.x = key at *
  have hn : I64 (askM s key c.attrs o c.b).1 := askM_I64 _ _ _ _ _
  generalize (askM s key c.attrs o c.b).1 = n at *
  generalize (askM s key c.attrs o c.b).2 = ae at *
  by_cases hpe : pe = 0
  rotate_left
  · rw [decide_eq_false hpe, Bool.false_and, if_neg (by decide)] at ei
    repeat (any_goals (first
    | (with_reducible first|((refine idGd ?_); refine zD ?_)|((refine idPick ?_); refine yB ?_)|((refine idCond ?_); refine yL ?_))
    | ((with_reducible refine idO ?_); (with_reducible refine oM_gen fun Kv hK=>?_); simp [go_sem, hk.cells, hpe]; refine hK _ _ ?_; clear hK; clear Kv)))
    exact store3 s sad s.bases.length sc zX none 0 0 zT false hr rfl rfl rfl (bad ei _ _ _ _ rfl rfl rfl hk.below hs hr)
  by_cases hae : ae = 0
  rotate_left
  · rw [decide_eq_false hae, Bool.and_false, if_neg (by decide)] at ei
    repeat (any_goals (first
    | (with_reducible first|refine pureM_in ?_|((refine idGd ?_); refine zC ?_)|((refine idPick ?_); refine yC ?_)|((refine idCond ?_); refine yL ?_))
    | ((with_reducible refine idO ?_); (with_reducible refine oM_gen fun Kv hK=>?_); simp [go_sem, hk.cells, hpe, hae]; refine hK _ _ ?_; clear hK; clear Kv)))
    exact store3 s sad s.bases.length sc zX none 0 0 zT false hr rfl rfl rfl (bad ei _ _ _ _ rfl rfl rfl hk.below hs hr)
  rw [decide_eq_true hpe, decide_eq_true hae, Bool.true_and, if_pos rfl] at ei
  clear bad
  repeat (any_goals (first
  | (with_reducible first|refine pureM_in ?_|((refine idGd ?_); refine zC ?_)|((refine idPick ?_); refine yC ?_)|((refine idCond ?_); refine yM ?_))
  | ((with_reducible refine idO ?_); (with_reducible refine oM_gen fun Kv hK=>?_); simp [go_sem, hk.cells, hpe, hae]; refine hK _ _ ?_; clear hK; clear Kv)))
  have hk := hk.drew
  have hr := hr.next (.drawn (B := w9.heap.size))
  have hs := hs.next (.drawn (B := w9.heap.size))
  refine ⟨Nx { w9 with drawn := w9.drawn + 1 }, Below.refl _ _, rfl, ?_⟩
  generalize ({ w9 with drawn := w9.drawn + 1 } : World) = W9 at hk hr hs ⊢
  repeat (any_goals (first
  | (with_reducible refine pureH_in ?_)
  | ((with_reducible refine idOH ?_); (with_reducible refine oH_of ⟨_, rfl⟩ (fun W0 hW0 => by (refine oM_gen (fun Kv hK => ?_)); simp [go_sem, (hk.next hW0).cells]; (first | exact hK _ _ ⟨rfl, rfl⟩ | exact ⟨by omega, hK _ _ ⟨rfl, rfl⟩⟩)) ?_))))
  refine ⟨Nx, ?_⟩
  apply monoE
  · intro w1 h1
    exact Grant_ok s c.x c.w n hc'.x hc'.wn hn (hs.next h1) (fun w2 h2 => ⟨h1.on h2, h2, rfl⟩)
  repeat (apply monoE; focus (intro w9 h9; (repeat (intro v9 e9; try (obtain rfl := e9))); (repeat (any_goals ((with_reducible refine idO ?_); (with_reducible refine oM_gen fun Kv hK=>?_); simp [go_sem, build_ses4]; refine hK _ _ ?_; clear hK; clear Kv))); exact ⟨h9, Below.refl _ _, rfl⟩))
  have hgr : I64 (grantM s c.x c.w n) := grantM_I64 _ _ _ _
  generalize grantM s c.x c.w n = gr at *
  refine monoR (fun v w' => ∃ g2, v = ptr g2 0 ∧ W9.heap.size ≤ g2 ∧ Holds w' g2 39 (sesC zX (.slice none 0 0))) (fun v w w1 hS h => h.imp fun g2 h => ⟨h.1, h.2.1, h.2.2.next hS⟩) ?_ ?_
  · intro w1 h1
    exact arr_alloc al_ses (fun g2 w2 h2 hg2 hh => ⟨h1.on h2, h2, g2, rfl, Nat.le_trans h1.size hg2, hh⟩)
  (intro w9 h9; repeat (intro v9 e9; try (obtain rfl := e9)))
  obtain ⟨g7, rfl, hg7, hh⟩ := e9
  have hg3W9 := hr.t.lt
  refine arr_store sz_ses (xs := sesC ⟨[], o, n, gr⟩ (.slice aad c.attrs.length ac)) rfl rfl (ses_one ⟨[], o, n, gr⟩ aad c.attrs.length ac) hh rfl (fun w10 hg10 hh => ?_)
  have h10 := grown_below h9 hg10 hg7
  have hk := hk.next h10
  have hr := hr.next h10
  have hs := hs.next h10
  clear h9 hg10 h10
  have hk := hk.drew
  have hr := hr.next (.drawn (B := w10.heap.size))
  have hs := hs.next (.drawn (B := w10.heap.size))
  have hh := hh.next (.drawn (B := w10.heap.size))
  refine ⟨Nx { w10 with drawn := w10.drawn + 1 }, Below.refl _ _, ?_⟩
  generalize ({ w10 with drawn := w10.drawn + 1 } : World) = W10 at hk hr hs hh ⊢
  repeat (any_goals ((with_reducible refine idOH ?_); (with_reducible refine oH_of ⟨_, rfl⟩ (fun W0 hW0 => by (refine oM_gen (fun Kv hK => ?_)); simp [go_sem, (hk.next hW0).cells, (hh.next hW0).are]; (first | exact hK _ _ ⟨rfl, rfl⟩ | exact ⟨by omega, hK _ _ ⟨rfl, rfl⟩⟩)) ?_)))
  have hlt : TktR (finishM s key c.attrs o c.b gr).1 := finish_R _ _ _ _ _ _
  have fin : ∀ (w14 : World) (g8 : Nat), Below W10.heap.size W10 w14 → W10.heap.size ≤ g8 → Holds w14 g8 41 (tktC (finishM s key c.attrs o c.b gr).1) → ∀ W9, Fr3 g1 g2 g3 { w14 with drawn := w14.drawn + 1 } W9 → K (.tuple #[stpV s (.slice sad s.bases.length sc), sesV ⟨[], o, n, gr⟩ (.slice aad c.attrs.length ac), tktV (finishM s key c.attrs o c.b gr).1, .bool (decide ((finishM s key c.attrs o c.b gr).2 = 0))]) W9 := fun w14 g8 h14 hg8 hh8 W9 hf3 => by
    have hb := (hk.next h14).below.on (.drawn (B := w14.heap.size))
    have hW := fr3_below hb hf3 (by omega) hlo.2.1 hlo.2.2
    have := k W9 (.slice sad s.bases.length sc) (.slice aad c.attrs.length ac) hW
    rw [ei] at this
    have hs := (hs.next h14).next (.drawn (B := w14.heap.size))
    exact this ⟨hs.grp, ints_fr3 hs.ints hf3 (fun i hi => by have := hf i hi; omega), hs.blind, hT.next hW⟩ ⟨hc'.attrs.next hW, hpo, hn, hgr⟩ hlt
  have endI := fun (w14 : World) (g8 : Nat) (h14 : Below W10.heap.size W10 w14) (hg8 : W10.heap.size ≤ g8) (hh8 : Holds w14 g8 41 (tktC (finishM s key c.attrs o c.b gr).1)) =>
    issued_end s sad s.bases.length sc ⟨[], o, n, gr⟩ aad c.attrs.length ac (finishM s key c.attrs o c.b gr).1 (finishM s key c.attrs o c.b gr).2 (hr.next h14) rfl rfl rfl
      (by
        obtain ⟨_, _, _, c1, c2, c3, c4, c5, _⟩ := (hk.next h14).cells
        exact ⟨c1, c2, c3, c4, c5, trivial⟩) (hh.next h14) hh8 (by omega) (by omega) (by have := hr.t.lt; omega) (fin w14 g8 h14 hg8 hh8)
  constructor
  · refine Public_ok s c.x hc'.x hs (fun w11 h11 => ⟨h11, ?_⟩)
    rw [hkq]
    constructor
    · refine Finish_ok s key gr o c.b hkey hgr hpo (hs.next h11) (hc'.attrs.next (hk.next h11).below) (hc'.b.next (hk.next h11).below) (hL.below (hk.next h11).below hL.size) (fun w12 h12 => ⟨h11.on h12, ?_⟩)
      have h12 := h11.on h12
      iterate 3 (any_goals (first
      | (with_reducible refine pureH_in ?_)
      | ((with_reducible refine idOH ?_); (with_reducible refine oH_of ⟨_, rfl⟩ (fun W0 hW0 => by (refine oM_gen (fun Kv hK => ?_)); simp [go_sem]; (first | exact hK _ _ ⟨rfl, rfl⟩ | exact ⟨by omega, hK _ _ ⟨rfl, rfl⟩⟩)) ?_))))
      refine arr_alloc al_tkt (fun g8 w13 h13 hg8 hh8 => ⟨h12.on h13, ?_⟩)
      have hg8 := Nat.le_trans h12.size hg8
      have h13 := h12.on h13
      refine arr_store sz_tkt rfl rfl (tkt_one _) hh8 rfl (fun w14 hg14 hh8 => ?_)
      have h14 := grown_below h13 hg14 hg8
      exact ⟨h14, h14, endI w14 g8 h14 hg8 hh8⟩
    · refine arr_alloc al_tkt (fun g8 w12 h12 hg8 hh8 => ⟨h11.on h12, ?_⟩)
      have hg8 := Nat.le_trans h11.size hg8
      have h12 := h11.on h12
      refine Finish_ok s key gr o c.b hkey hgr hpo (hs.next h12) (hc'.attrs.next (hk.next h12).below) (hc'.b.next (hk.next h12).below) (hL.below (hk.next h12).below hL.size) (fun w13 h13 => ⟨h12.on h13, ?_⟩)
      have hh8 := hh8.next h13
      have h13 := h12.on h13
      iterate 3 (any_goals (first
      | (with_reducible refine pureH_in ?_)
      | ((with_reducible refine idOH ?_); (with_reducible refine oH_of ⟨_, rfl⟩ (fun W0 hW0 => by (refine oM_gen (fun Kv hK => ?_)); simp [go_sem]; (first | exact hK _ _ ⟨rfl, rfl⟩ | exact ⟨by omega, hK _ _ ⟨rfl, rfl⟩⟩)) ?_))))
      refine arr_store sz_tkt rfl rfl (tkt_one _) hh8 rfl (fun w14 hg14 hh8 => ?_)
      have h14 := grown_below h13 hg14 hg8
      exact ⟨h14, h14, endI w14 g8 h14 hg8 hh8⟩
  · refine arr_alloc al_tkt (fun g8 w11 h11 hg8 hh8 => ⟨h11, ?_⟩)
    refine Public_ok s c.x hc'.x (hs.next h11) (fun w12 h12 => ⟨h11.on h12, ?_⟩)
    rw [hkq]
    have hh8 := hh8.next h12
    have h12 := h11.on h12
    refine Finish_ok s key gr o c.b hkey hgr hpo (hs.next h12) (hc'.attrs.next (hk.next h12).below) (hc'.b.next (hk.next h12).below) (hL.below (hk.next h12).below hL.size) (fun w13 h13 => ⟨h12.on h13, ?_⟩)
    have hh8 := hh8.next h13
    have h13 := h12.on h13
    iterate 3 (any_goals (first
    | (with_reducible refine pureH_in ?_)
    | ((with_reducible refine idOH ?_); (with_reducible refine oH_of ⟨_, rfl⟩ (fun W0 hW0 => by (refine oM_gen (fun Kv hK => ?_)); simp [go_sem]; (first | exact hK _ _ ⟨rfl, rfl⟩ | exact ⟨by omega, hK _ _ ⟨rfl, rfl⟩⟩)) ?_))))
    refine arr_store sz_tkt rfl rfl (tkt_one _) hh8 rfl (fun w14 hg14 hh8 => ?_)
    have h14 := grown_below h13 hg14 hg8
    exact ⟨h14, h14, endI w14 g8 h14 hg8 hh8⟩
end
end Go.Proofs
namespace Go.Proofs
open Go Go.Sh Go.RowKit FdSpec TkSpec CodeSpec
set_option linter.unusedSimpArgs false
set_option linter.unusedVariables false
set_option maxRecDepth 10000
section
variable {K : Value → World → Prop} {w w0 : World} {L : List (Addr × Value)}
@[go_sem] theorem oM_extract4_0 {P : Program} {K : Value → World → Prop} {w : World} (T : TypeId) (a b c d : Value) : oM P (.extract (.tmp 0) 0) T [.tuple #[a, b, c, d]] K w = K a w := oM_of_run rfl
@[go_sem] theorem oM_extract4_1 {P : Program} {K : Value → World → Prop} {w : World} (T : TypeId) (a b c d : Value) : oM P (.extract (.tmp 0) 1) T [.tuple #[a, b, c, d]] K w = K b w := oM_of_run rfl
@[go_sem] theorem oM_extract4_2 {P : Program} {K : Value → World → Prop} {w : World} (T : TypeId) (a b c d : Value) : oM P (.extract (.tmp 0) 2) T [.tuple #[a, b, c, d]] K w = K c w := oM_of_run rfl
@[go_sem] theorem oM_extract4_3 {P : Program} {K : Value → World → Prop} {w : World} (T : TypeId) (a b c d : Value) : oM P (.extract (.tmp 0) 3) T [.tuple #[a, b, c, d]] K w = K d w := oM_of_run rfl
theorem local_spdK {K : Value → World → Prop} {T' T2 : TypeId} (x : Spd) (ad : Option Addr) (m c : Nat) (hk : Kn w0 L w)
    (k : ∀ b W, Kn w0 (cellsOf L b 0 (spdC x (.slice ad m c))) W → Below w.heap.size w W → w.heap.size ≤ b → K (.pointer (some ⟨b, 0, none⟩)) W) :
    oM Tryz.prog (.alloc 49) T' [] (fun v w => oM Tryz.prog (.store 49 (.tmp 0) (.tmp 1)) T2 [v, spdV x (.slice ad m c)] (fun _ w => K v w) w) w :=
  local_kn al_spd rfl sz_spd rfl rfl (spd_one x ad m c) hk k
theorem local3 {K : Value → Value → Value → World → Prop} {T1 T2 T3 T4 T5 T6 : TypeId} (s : Stp) (ad : Option Addr) (n cc : Nat) (x : Ses) (ad2 : Option Addr) (n2 c2 : Nat) (t : Tkt) (hk : Kn w0 L w)
    (k : ∀ g1 g2 g3 W, Kn w0 (cellsOf (cellsOf (cellsOf L g1 0 (stpC s (.slice ad n cc))) g2 0 (sesC x (.slice ad2 n2 c2))) g3 0 (tktC t)) W → Below w.heap.size w W → K (ptr g1 0) (ptr g2 0) (ptr g3 0) W) :
    oM Tryz.prog (.alloc 32) T1 [] (fun v1 w => oM Tryz.prog (.alloc 39) T2 [] (fun v2 w => oM Tryz.prog (.alloc 41) T3 [] (fun v3 w =>
      oM Tryz.prog (.store 32 (.tmp 0) (.tmp 1)) T4 [v1, stpV s (.slice ad n cc)] (fun _ w => oM Tryz.prog (.store 39 (.tmp 0) (.tmp 1)) T5 [v2, sesV x (.slice ad2 n2 c2)] (fun _ w => oM Tryz.prog (.store 41 (.tmp 0) (.tmp 1)) T6 [v3, tktV t] (fun _ w => K v1 v2 v3 w) w) w) w) w) w) w := by
  refine arr_alloc al_stp fun g1 w1 h1 hg1 hh1 => ?_
  refine arr_alloc al_ses fun g2 w2 h2 hg2 hh2 => ?_
  refine arr_alloc al_tkt fun g3 w3 h3 hg3 hh3 => ?_
  have l1 := hh1.lt
  have l2 := hh2.lt
  have hb := (h1.on h2).on h3
  have hh1 := (hh1.next h2).next h3
  have hh2 := hh2.next h3
  have s1 := h1.size
  have s2 := h2.size
  have s3 := h3.size
  refine arr_store sz_stp rfl rfl (stp_one s ad n cc) hh1 rfl (fun W1 hq1 hh1 => ?_)
  have hb := grown_below hb hq1 hg1
  refine arr_store sz_ses rfl rfl (ses_one x ad2 n2 c2) (hh2.other hq1 (by omega)) rfl (fun W2 hq2 hh2 => ?_)
  have hb := grown_below hb hq2 (by omega)
  refine arr_store sz_tkt rfl rfl (tkt_one t) ((hh3.other hq1 (by omega)).other hq2 (by omega)) rfl (fun W3 hq3 hh3 => ?_)
  have hb := grown_below hb hq3 (by omega)
  have hh1 := (hh1.other hq2 (by omega)).other hq3 (by omega)
  have hh2 := hh2.other hq3 (by omega)
  have hk := hk.next hb
  refine k g1 g2 g3 W3 ⟨hk.below, ?_⟩ hb
  have A := fun {vs : List Value} {g : Nat} {T : TypeId} {L : List (Addr × Value)} (h : Holds W3 g T vs) (hL : cellsAre W3 L) => cellsOf_are (xs := vs) hL (fun i v hi => by
    obtain ⟨hl, rfl⟩ := List.getElem?_eq_some_iff.1 hi
    exact h.cell i hl) vs 0 rfl
  exact A hh3 (A hh2 (A hh1 hk.cells))
end
end Go.Proofs
namespace TkSpec
open FdSpec
def grp (n : Nat) : Grp := ⟨2 * n + 1, n, 4⟩
def ordL : List Nat := [5, 11, 23, 29, 41, 53, 83, 89, 113, 131, 173, 179, 191]
theorem ord_inv : ∀ n ∈ ordL, ∀ a, a < n → 0 < a → ∃ b, b < n ∧ 0 < b ∧ a * b % n = 1 := by decide +kernel
end TkSpec
namespace TkSpec
open FdSpec
def E (n : Nat) (k : Int) : Int := pw (2 * n + 1) 4 (k % n).toNat
structure Ok (n : Nat) : Prop where
  five : 5 ≤ n
  le : n ≤ 200
  one : pw (2 * n + 1) 4 n = 1
end TkSpec
namespace TkSpec
open FdSpec
theorem Ok.q {n : Nat} (h : Ok n) : okN (n : Int) := by have := h.five; have := h.le; unfold okN; omega
theorem Ok.p {n : Nat} (h : Ok n) : okN (2 * (n : Int) + 1) := by have := h.five; have := h.le; unfold okN; omega
def dot : List Int → List Int → Int
  | a :: l, b :: m => a * b + dot l m
  | _, _ => 0
theorem ord_one : ∀ n ∈ ordL, pw (2 * n + 1) 4 n = 1 := by decide +kernel
theorem ord_rng : ∀ n ∈ ordL, 5 ≤ n ∧ n ≤ 200 := by decide
theorem ok_of {n : Nat} (h : n ∈ ordL) : Ok n := ⟨(ord_rng n h).1, (ord_rng n h).2, ord_one n h⟩
end TkSpec
namespace TkSpec
open FdSpec
end TkSpec
namespace TkSpec
open FdSpec
theorem E_dvd {n : Nat} {a b q : Int} (h : a = b + n * q) : E n a = E n b := by
  subst h
  unfold E
  rw [Int.add_mul_emod_self_left]
theorem inv_ex {n : Nat} (hn : n ∈ ordL) {a : Int} (h : 0 < a % n) : ∃ b q : Int, a * b = 1 + n * q := by
  have h5 := (ok_of hn).five
  have h3 := Int.emod_lt_of_pos a (b := n) (by omega)
  obtain ⟨b, hb, _, he⟩ := ord_inv n hn (a % n).toNat (by omega) (by omega)
  have e1 : ((a % n).toNat : Int) = a % n := Int.toNat_of_nonneg (by omega)
  have h2 := Int.emod_add_mul_ediv a n
  have h4 := Int.emod_add_mul_ediv ((a % n) * b) n
  have he' : ((a % n) * (b : Int)) % n = 1 := by
    have := congrArg (fun k : Nat => (k : Int)) he
    simp only [Int.natCast_emod, Int.natCast_mul, e1] at this
    simpa using this
  rw [he'] at h4
  exact ⟨b, (a % n) * b / n + a / n * b, by grind⟩
end TkSpec
namespace TkSpec
open FdSpec
def Cg (n : Nat) (a b : Int) : Prop := ∃ q : Int, a = b + n * q
namespace Cg
variable {n : Nat} {a b c d : Int}
theorem of_eq (h : a = b) : Cg n a b := ⟨0, by simp [h]⟩
theorem symm (h : Cg n a b) : Cg n b a := by obtain ⟨q, h⟩ := h; exact ⟨-q, by grind⟩
theorem trans (h : Cg n a b) (k : Cg n b c) : Cg n a c := by obtain ⟨q, h⟩ := h; obtain ⟨r, k⟩ := k; exact ⟨q + r, by grind⟩
theorem add (h : Cg n a b) (k : Cg n c d) : Cg n (a + c) (b + d) := by obtain ⟨q, h⟩ := h; obtain ⟨r, k⟩ := k; exact ⟨q + r, by grind⟩
theorem sub (h : Cg n a b) (k : Cg n c d) : Cg n (a - c) (b - d) := by obtain ⟨q, h⟩ := h; obtain ⟨r, k⟩ := k; exact ⟨q - r, by grind⟩
theorem mul (h : Cg n a b) (k : Cg n c d) : Cg n (a * c) (b * d) := by obtain ⟨q, h⟩ := h; obtain ⟨r, k⟩ := k; exact ⟨q * d + b * r + n * q * r, by grind⟩
theorem mod (n : Nat) (a : Int) : Cg n (a % n) a := ⟨-(a / n), by have := Int.emod_add_mul_ediv a n; grind⟩
theorem eq (h : Cg n a b) (h1 : 0 ≤ a ∧ a < n) (h2 : 0 ≤ b ∧ b < n) : a = b := by
  obtain ⟨q, h⟩ := h
  have e : a % n = b % n := by rw [h, Int.add_mul_emod_self_left]
  rwa [Int.emod_eq_of_lt h1.1 h1.2, Int.emod_eq_of_lt h2.1 h2.2] at e
theorem cancel (hn : n ∈ ordL) (hc : 0 < c % n) (h : Cg n (c * a) (c * b)) : Cg n a b := by
  obtain ⟨i, q, hi⟩ := inv_ex hn hc
  obtain ⟨r, h⟩ := h
  exact ⟨i * r - q * a + q * b, by grind⟩
theorem addM {n : Nat} (hn : okN n) (a b : Int) : Cg n (addM n a b) (a + b) := by unfold FdSpec.addM; rw [if_pos hn]; exact mod _ _
theorem subM {n : Nat} (hn : okN n) (a b : Int) : Cg n (subM n a b) (a - b) := by unfold FdSpec.subM; rw [if_pos hn]; exact mod _ _
theorem mulM {n : Nat} (hn : okN n) (a b : Int) : Cg n (mulM n a b) (a * b) := by unfold FdSpec.mulM; rw [if_pos hn]; exact mod _ _
theorem E (h : Cg n a b) : E n a = E n b := by obtain ⟨q, h⟩ := h; exact E_dvd h
end Cg
theorem mul_pos {n : Nat} (hn : n ∈ ordL) {a b : Int} (ha : 0 < a % n) (hb : 0 < b % n) : 0 < a * b % n := by
  have h5 := (ok_of hn).five
  have h1 := Int.emod_nonneg (a * b) (b := n) (by omega)
  rcases Int.lt_or_eq_of_le h1 with h | h
  · exact h
  · exfalso
    have hc : Cg n (a * b) (a * 0) := by
      rw [Int.mul_zero]
      exact (Cg.mod n (a * b)).symm.trans (Cg.of_eq h.symm)
    obtain ⟨q, hq⟩ := hc.cancel hn ha
    rw [hq, Int.zero_add, Int.mul_emod_right] at hb
    omega
end TkSpec
namespace Go.Proofs
open Go Go.Sh Go.RowKit FdSpec TkSpec CodeSpec
set_option linter.unusedSimpArgs false
set_option linter.unusedVariables false
set_option maxRecDepth 10000
end Go.Proofs
namespace Go.Proofs
open Go Go.Sh Go.RowKit FdSpec TkSpec CodeSpec
set_option linter.unusedSimpArgs false
set_option linter.unusedVariables false
set_option maxRecDepth 10000
end Go.Proofs
namespace Go.Proofs
open Go Go.Sh Go.RowKit FdSpec TkSpec CodeSpec
set_option linter.unusedSimpArgs false
set_option linter.unusedVariables false
set_option maxRecDepth 10000
end Go.Proofs
namespace TkSpec
open FdSpec
section
variable {n : Nat} (hn : n ∈ ordL) {s : Stp} {ns : List Int} (hg : s.g = grp n) (hb : s.bases = ns.map (E n))
include hn hg
theorem nums_one {a m : Int} : numsM s a [m] = true ↔ a ≤ m ∧ m < n := by
  unfold numsM
  rw [hg]
  show ([m].all fun x => decide (a ≤ x) && decide (x < (n : Int))) = true ↔ _
  simp
include hb
end
end TkSpec
namespace TkSpec
open FdSpec
section
variable {n : Nat} (hn : n ∈ ordL) {s : Stp} {ns : List Int} (hg : s.g = grp n) (hb : s.bases = ns.map (E n))
include hn hg hb
end
end TkSpec
namespace Go.Proofs
open FdSpec TkSpec
end Go.Proofs
namespace Go.Proofs
open Go Go.Sh Go.RowKit FdSpec TkSpec CodeSpec
set_option linter.unusedSimpArgs false
set_option linter.unusedVariables false
set_option maxRecDepth 10000
section
variable {K : Value → World → Prop} {w w0 : World} {L : List (Addr × Value)}
end
end Go.Proofs
namespace Go.Proofs
open Go Go.Sh Go.RowKit FdSpec TkSpec CodeSpec
set_option linter.unusedSimpArgs false
set_option linter.unusedVariables false
set_option maxRecDepth 10000
section
variable {K : Value → World → Prop} {w w0 : World} {L : List (Addr × Value)}
@[reducible] def lnkC (x : Lnk) (v : Value) : List Value := [.int .i64 x.ticket.mark, .int .i64 x.ticket.first, .int .i64 x.ticket.z, .int .i64 x.ticket.a, .int .i64 x.ticket.b, .int .i64 x.ticket.r, .int .i64 x.spend.dare, v, .string ⟨x.terms.toArray⟩]
@[reducible] def lnkV (x : Lnk) (v : Value) : Value := .agg #[.int .i64 x.ticket.mark, .int .i64 x.ticket.first, .int .i64 x.ticket.z, .int .i64 x.ticket.a, .int .i64 x.ticket.b, .int .i64 x.ticket.r, .int .i64 x.spend.dare, v, .string ⟨x.terms.toArray⟩]
def LnkAt (w : World) (b p : Nat) (x : Lnk) (v : Value) : Prop :=
  w.cell? ⟨b, p, none⟩ = some (.int .i64 x.ticket.mark) ∧ w.cell? ⟨b, p + 1, none⟩ = some (.int .i64 x.ticket.first) ∧ w.cell? ⟨b, p + 2, none⟩ = some (.int .i64 x.ticket.z) ∧ w.cell? ⟨b, p + 3, none⟩ = some (.int .i64 x.ticket.a) ∧
  w.cell? ⟨b, p + 4, none⟩ = some (.int .i64 x.ticket.b) ∧ w.cell? ⟨b, p + 5, none⟩ = some (.int .i64 x.ticket.r) ∧ w.cell? ⟨b, p + 6, none⟩ = some (.int .i64 x.spend.dare) ∧ w.cell? ⟨b, p + 7, none⟩ = some v ∧ w.cell? ⟨b, p + 8, none⟩ = some (.string ⟨x.terms.toArray⟩)
theorem LnkAt.next {w' : World} {b p : Nat} {x : Lnk} {v : Value} (h : LnkAt w b p x v) (hb : Below w.heap.size w w') (hlt : b < w.heap.size) : LnkAt w' b p x v := by
  have e : ∀ k, w'.cell? ⟨b, k, none⟩ = w.cell? ⟨b, k, none⟩ := fun k => by rw [hb.cell hlt]
  unfold LnkAt at h ⊢
  simp only [e]
  exact h
structure LnkRow (w : World) (v : Value) (l : List Lnk) : Prop where
  row : ∃ ad c, v = .slice ad l.length c ∧ (l = [] ∨ ∃ b o, ad = some ⟨b, o, none⟩ ∧ b < w.heap.size ∧ ∀ (i : Nat) (h : i < l.length), ∃ av, SpdR w l[i].spend av ∧ LnkAt w b (o + i * 9) l[i] av)
  tk : ∀ x ∈ l, TktR x.ticket
  tx : ∀ x ∈ l, x.terms.length ≤ 9223372036854775807
  len : l.length ≤ 9223372036854775807
theorem LnkRow.next {w' : World} {v : Value} {l : List Lnk} (h : LnkRow w v l) (hb : Below w.heap.size w w') : LnkRow w' v l := by
  obtain ⟨⟨ad, c, rfl, h1⟩, h2, h3, h4⟩ := h
  refine ⟨⟨ad, c, rfl, h1.imp id ?_⟩, h2, h3, h4⟩
  rintro ⟨b, o, rfl, hlt, hc⟩
  refine ⟨b, o, rfl, Nat.lt_of_lt_of_le hlt hb.size, fun i hi => ?_⟩
  obtain ⟨av, h5, h6⟩ := hc i hi
  exact ⟨av, h5.next hb, h6.next hb hlt⟩
theorem LnkRow.isSlice {v : Value} {l : List Lnk} (h : LnkRow w v l) : ∃ ad c, v = .slice ad l.length c := by
  obtain ⟨⟨ad, c, rfl, _⟩, _⟩ := h; exact ⟨ad, c, rfl⟩
theorem LnkRow.at {ad : Option Addr} {n c : Nat} {l : List Lnk} (h : LnkRow w (.slice ad n c) l) {i : Nat} (hi : i < l.length) :
    ∃ b o av, ad = some ⟨b, o, none⟩ ∧ (∀ w', Below w.heap.size w w' → LnkAt w' b (o + i * 9) l[i] av) ∧ SpdR w l[i].spend av ∧ TktR l[i].ticket ∧ l[i].terms.length ≤ 9223372036854775807 := by
  obtain ⟨⟨ad', c', hv, h1⟩, h2, h3, h4⟩ := h
  cases hv
  rcases h1 with rfl | ⟨b, o, rfl, hlt, hc⟩
  · simp at hi
  · obtain ⟨av, h5, h6⟩ := hc i hi
    exact ⟨b, o, av, rfl, fun w' hb => h6.next hb hlt, h5, h2 _ (List.getElem_mem hi), h3 _ (List.getElem_mem hi)⟩
@[go_sem] theorem idx_lnk (T : TypeId) (b o n c : Nat) (x : Int) : oM Tryz.prog (.indexAddr 85 (.tmp 0) (.tmp 1)) T [.slice (some ⟨b, o, none⟩) n c, .int .i64 x] = onM (0 ≤ x ∧ x < n) (.pointer (some ⟨b, o + x.toNat * 9, none⟩)) := by
  funext K w
  rw [oM_indexAddr, run_indexAt_slice (h := by kernel_rfl)]
  have hs : (sizeOf (Tryz.prog.elem 85)).run Tryz.prog w = .ok 9 w := by kernel_rfl
  by_cases hi : 0 ≤ x ∧ x < n
  · rw [if_pos hi, hs]
    simp only [Result.andThen, add_none, rM_ok]
    exact propext ⟨fun h => ⟨hi, h⟩, fun h => h.2⟩
  · rw [if_neg hi]
    obtain ⟨e', w', he⟩ := halts Value Tryz.prog .i64 x n .index w
    rw [he]
    exact propext ⟨fun h => h.elim, fun h => hi h.1⟩
theorem sz_lnk (w : World) : (sizeOf 91).run Tryz.prog w = .ok 9 w := by kernel_rfl
theorem al_lnk (w : World) : (Instr.alloc 91 true (.tuple #[])).run Tryz.prog w = .ok (.pointer (some ⟨w.heap.size, 0, none⟩)) (w.alloc (.cells [.int .i64 0, .int .i64 0, .int .i64 0, .int .i64 0, .int .i64 0, .int .i64 0, .int .i64 0, .slice none 0 0, .string ByteArray.empty].toArray 91)) := by kernel_rfl
theorem lnk_one (x : Lnk) (ad : Option Addr) (n c : Nat) : ∀ u ∈ lnkC x (.slice ad n c), u.oneCell' = true := by
  intro u hu
  simp only [lnkC, List.mem_cons, List.not_mem_nil, or_false] at hu
  rcases hu with rfl | rfl | rfl | rfl | rfl | rfl | rfl | rfl | rfl <;> rfl
theorem local_lnk {K : Value → World → Prop} {T' T2 : TypeId} (x : Lnk) (ad : Option Addr) (m c : Nat) (hk : Kn w0 L w)
    (k : ∀ g W, Kn w0 (cellsOf L g 0 (lnkC x (.slice ad m c))) W → Below w.heap.size w W → w.heap.size ≤ g → K (.pointer (some ⟨g, 0, none⟩)) W) :
    oM Tryz.prog (.alloc 91) T' [] (fun v w => oM Tryz.prog (.store 91 (.tmp 0) (.tmp 1)) T2 [v, lnkV x (.slice ad m c)] (fun _ w => K v w) w) w :=
  local_kn al_lnk rfl sz_lnk rfl rfl (lnk_one x ad m c) hk k
theorem validF_ok (s : Stp) (key : Int) (x : Lnk) {v : Value} {d g7 g : Nat} {ad : Option Addr} {c : Nat} (hkey : I64 key) (hs : SetR w s (.slice ad s.bases.length c)) (ht : TktR x.ticket) (hL : Cd.Laid w)
    (hk : Kn w0 (cellsOf (cellsOf (cellsOf [] d 0 (stpC s (.slice ad s.bases.length c))) g7 0 (stpC s (.slice ad s.bases.length c))) g 0 (lnkC x v)) w) (k : ∀ w', Below w.heap.size w w' → K (.bool (validM s key x.ticket)) w') :
    callM Tryz.prog 93 #[.int .i64 key, .pointer (some ⟨d, 0, none⟩), .pointer (some ⟨g, 0, none⟩)] K w := by
  apply sh_93_ok
  unfold sh_93
  repeat (any_goals ((with_reducible refine idO ?_); (with_reducible refine oM_gen fun Kv hK=>?_); simp [go_sem, hk.cells]; refine hK _ _ ?_; clear hK; clear Kv))
  exact Valid_ok s key x.ticket hkey ht hs hL k
end
end Go.Proofs
namespace Go.Proofs
open Go Go.Sh Go.RowKit FdSpec TkSpec CodeSpec
set_option linter.unusedSimpArgs false
set_option linter.unusedVariables false
set_option maxRecDepth 10000
section
variable {K : Value → World → Prop} {w w0 : World} {L : List (Addr × Value)}
def FlJ (s : Stp) (keys : List Int) (dare : Int) (ls : List Lnk) (R : Bool) (L : List (Addr × Value)) (w0 : World) (vs : List Value) (w' : World) : Prop :=
  Kn w0 L w' ∧ ∃ (u1 u2 u3 u4 : Value) (i : Nat), vs = [u1, u2, u3, u4, .int .i64 (i : Int)] ∧ i ≤ ls.length ∧ (i < ls.length → chainM s keys dare (ls.drop i) = R) ∧ (i = ls.length → ∀ x, ls[ls.length - 1]? = some x → decide (x.terms = []) = R)
def flMu (n : Nat) (l : List Value) (_ : World) : Nat := match l with | [_, _, _, _, .int _ i] => n - i.toNat | _ => 0
theorem flMu_eq (n : Nat) (a b c d : Value) (k : IntKind) (i : Int) (w : World) : flMu n [a, b, c, d, .int k i] w = n - i.toNat := rfl
theorem Follows_ok (s : Stp) (dare : Int) {v kv lv : Value} {keys : List Int} {ls : List Lnk} (hs : SetR w s v) (hkeys : Ints w kv keys) (hl : LnkRow w lv ls) (hL : Cd.Laid w) (k : ∀ w', Below w.heap.size w w' → K (.bool (followsM s keys ls dare)) w') :
    callM Tryz.prog 38 #[stpV s v, kv, lv, .int .i64 dare] K w := by
  apply sh_38_ok
  unfold sh_38
  obtain ⟨ad, c, rfl⟩ := hs.ints.isSlice
  obtain ⟨lad, lc, rfl⟩ := hl.isSlice
  refine box_kn (cs := stpC s (.slice ad s.bases.length c)) rfl (.start w) fun b W hk hb1 hb => ?_
  unfold followsM at k
  have hll := hl.len
  repeat (any_goals ((with_reducible refine idO ?_); (with_reducible refine oM_gen fun Kv hK=>?_); simp [go_sem, hk.cells]; refine hK _ _ ?_; clear hK; clear Kv))
  refine open_ok s (hs.next hk.below) (fun w2 h => ?_)
  have hk := hk.next h
  clear h hb1
  iterate 2 (any_goals ((with_reducible refine idO ?_); (with_reducible refine oM_gen fun Kv hK=>?_); simp [go_sem]; refine hK _ _ ?_; clear hK; clear Kv))
  refine local_desk' s ad s.bases.length c hk (fun b7 W7 hk hb7 hg7 => ?_)
  clear hb7
  cases hv : validS s with
  | false =>
    rw [hv, Bool.false_and, Bool.false_and, Bool.false_and] at k
    repeat (any_goals (first
    | (with_reducible first|((refine idGd ?_); refine zD ?_)|((refine idPick ?_); refine yB ?_)|((refine idCond ?_); refine yL ?_))
    | ((with_reducible refine idO ?_); (with_reducible refine oM_gen fun Kv hK=>?_); simp [go_sem]; refine hK _ _ ?_; clear hK; clear Kv)))
    exact k _ hk.below
  | true =>
  rw [hv, Bool.true_and] at k
  by_cases h1 : (ls.length : Int) < 1
  · rw [decide_eq_false (by omega : ¬ 1 ≤ ls.length), Bool.false_and, Bool.false_and] at k
    repeat (any_goals (first
    | (with_reducible first|refine pureM_in ?_|((refine idGd ?_); first|refine zC ?_|refine zD ?_)|((refine idPick ?_); first|refine yB ?_|refine yC ?_)|((refine idCond ?_); refine yL ?_))
    | ((with_reducible refine idO ?_); (with_reducible refine oM_gen fun Kv hK=>?_); simp [go_sem, h1]; refine hK _ _ ?_; clear hK; clear Kv)))
    exact k _ hk.below
  rw [decide_eq_true (by omega : 1 ≤ ls.length), Bool.true_and] at k
  by_cases h5 : (5 : Int) < ls.length
  · rw [decide_eq_false (by omega : ¬ ls.length ≤ 5), Bool.false_and] at k
    repeat (any_goals (first
    | (with_reducible first|refine pureM_in ?_|((refine idGd ?_); refine zC ?_)|((refine idPick ?_); refine yC ?_)|((refine idCond ?_); refine yL ?_))
    | ((with_reducible refine idO ?_); (with_reducible refine oM_gen fun Kv hK=>?_); simp [go_sem, h1, h5]; refine hK _ _ ?_; clear hK; clear Kv)))
    exact k _ hk.below
  rw [decide_eq_true (by omega : ls.length ≤ 5), Bool.true_and] at k
  repeat (any_goals (first
  | (with_reducible first|refine pureM_in ?_|((refine idGd ?_); refine zC ?_)|((refine idPick ?_); refine yC ?_)|((refine idCond ?_); refine yM ?_))
  | ((with_reducible refine idO ?_); (with_reducible refine oM_gen fun Kv hK=>?_); simp [go_sem, h1, h5]; refine hK _ _ ?_; clear hK; clear Kv)))
  refine ⟨FlJ s keys dare ls (chainM s keys dare ls) _ w, flMu ls.length, ⟨hk, _, _, _, _, 0, rfl, by omega, fun _ => by rw [List.drop_zero], fun h => by omega⟩, ?_⟩
  generalize chainM s keys dare ls = R at *
  rintro _ _ w6 ⟨hk, u1, u2, u3, u4, i, rfl, hi, ha, hz⟩
  by_cases hin : i = ls.length
  · obtain ⟨b8, o8, av, rfl, ca, _, _, hlen⟩ := hl.at (i := ls.length - 1) (by omega)
    have hz := hz hin _ (List.getElem?_eq_getElem (by omega))
    have ca := ca _ hk.below
    unfold LnkAt at ca
    have et : ((ls.length : Int) - 1).toNat = ls.length - 1 := by omega
    repeat (any_goals (first
    | (with_reducible ((refine idCond ?_); refine yO ?_))
    | ((with_reducible refine idO ?_); (with_reducible refine oM_gen fun Kv hK=>?_); simp [go_sem, ca, et]; (try simp (disch := omega) only [wrapI64, wrapU8, wrapU32, wrapU64]); (first|refine hK _ _ ?_|refine And.intro (by omega) (hK _ _ ?_)); clear hK; clear Kv)))
    rw [hz]
    exact k _ hk.below
  · have ha := ha (by omega)
    rw [List.drop_eq_getElem_cons (by omega)] at ha
    obtain ⟨b8, o8, av, rfl, ca, hsp, htk, hlen⟩ := hl.at (i := i) (by omega)
    have ca := ca _ hk.below
    have hsp := hsp.next hk.below
    unfold LnkAt at ca
    obtain ⟨aad, ac, rfl⟩ := hsp.answers.isSlice
    repeat (any_goals (first
    | ((with_reducible refine local_lnk ls[i] aad ls[i].spend.answers.length ac hk ?_); intro g13 W13 hk hb13 hg13)
    | (with_reducible ((refine idCond ?_); refine yN ?_))
    | ((with_reducible refine idO ?_); (with_reducible refine oM_gen fun Kv hK=>?_); simp [go_sem, ca]; (first|refine hK _ _ ?_|refine And.intro (by omega) (hK _ _ ?_)); clear hK; clear Kv)))
    have hsp := hsp.next hb13
    clear hb13 ca
    have hlast : i + 1 = ls.length → ls[ls.length - 1]? = some ls[i] := fun h => by
      rw [show ls.length - 1 = i by omega]; exact List.getElem?_eq_getElem (by omega)
    generalize ls[i] = x at *
    refine ContainsFunc_ok (fun q => validM s q x.ticket) (hkeys.next hk.below) ?_ ?_
    · intro w' q K' T hb hq h'
      refine oM_callv1 (by kernel_rfl) ?_
      have hk := hk.next hb
      exact validF_ok s q x hq (hs.next hk.below) htk (hL.below hk.below hL.size) hk h'
    intro w3 h3
    have hk := hk.next h3
    have hsp := hsp.next h3
    clear h3
    have elk : linkM s keys x = (keys.any (fun q => validM s q x.ticket) && decide (x.terms.length ≤ 8000) && acceptsM s x.ticket x.spend) := rfl
    have hno : linkM s keys x = false → K (.bool false) = K (.bool R) := fun h => by
      rw [← ha]
      cases hr : List.drop (i + 1) ls with
      | nil => rw [chainM, h]; rfl
      | cons y l => rw [chainM, h]; rfl
    generalize (keys.any fun q => validM s q x.ticket) = va at *
    cases va with
    | false =>
      rw [Bool.false_and, Bool.false_and] at elk
      repeat (any_goals (first
      | (with_reducible first|((refine idGd ?_); refine zD ?_)|((refine idPick ?_); refine yB ?_)|((refine idCond ?_); refine yL ?_))
      | ((with_reducible refine idO ?_); (with_reducible refine oM_gen fun Kv hK=>?_); simp [go_sem, hk.cells]; refine hK _ _ ?_; clear hK; clear Kv)))
      rw [hno elk]
      exact k _ hk.below
    | true =>
    by_cases h8 : (8000 : Int) < x.terms.length
    · rw [decide_eq_false (by omega : ¬ x.terms.length ≤ 8000)] at elk
      repeat (any_goals (first
      | (with_reducible first|((refine idGd ?_); first|refine zC ?_|refine zD ?_)|((refine idPick ?_); first|refine yB ?_|refine yC ?_)|((refine idCond ?_); refine yL ?_))
      | ((with_reducible refine idO ?_); (with_reducible refine oM_gen fun Kv hK=>?_); simp [go_sem, hk.cells, h8]; refine hK _ _ ?_; clear hK; clear Kv)))
      rw [hno elk]
      exact k _ hk.below
    rw [decide_eq_true (by omega : x.terms.length ≤ 8000), Bool.true_and, Bool.true_and] at elk
    repeat (any_goals (first
    | (with_reducible first|((refine idGd ?_); refine zC ?_)|((refine idPick ?_); refine yC ?_))
    | ((with_reducible refine idO ?_); (with_reducible refine oM_gen fun Kv hK=>?_); simp [go_sem, hk.cells, h8]; refine hK _ _ ?_; clear hK; clear Kv)))
    refine Accepts_ok s x.ticket x.spend htk (hs.next hk.below) hsp (fun w4 h4 => ?_)
    have hk := hk.next h4
    have hsp := hsp.next h4
    clear h4
    cases hac : acceptsM s x.ticket x.spend with
    | false =>
      rw [hac] at elk
      repeat (any_goals (first
      | (with_reducible first|((refine idGd ?_); refine zC ?_)|((refine idPick ?_); refine yC ?_)|((refine idCond ?_); refine yL ?_))
      | ((with_reducible refine idO ?_); (with_reducible refine oM_gen fun Kv hK=>?_); simp [go_sem, hk.cells]; refine hK _ _ ?_; clear hK; clear Kv)))
      rw [hno elk]
      exact k _ hk.below
    | true =>
    rw [hac] at elk
    clear hac hno
    repeat (any_goals (first
    | (with_reducible first|((refine idGd ?_); refine zC ?_)|((refine idPick ?_); refine yC ?_)|((refine idCond ?_); refine yM ?_))
    | ((with_reducible refine idO ?_); (with_reducible refine oM_gen fun Kv hK=>?_); simp [go_sem, hk.cells]; refine hK _ _ ?_; clear hK; clear Kv)))
    have hll' : x.terms.length ≤ 8000 := by omega
    by_cases hnx : i + 1 < ls.length
    · rw [List.drop_eq_getElem_cons hnx, chainM, elk, Bool.true_and, ← List.drop_eq_getElem_cons hnx] at ha
      obtain ⟨b9, o9, av9, e9, cb, _, hyt, _⟩ := hl.at (i := i + 1) hnx
      cases e9
      unfold LnkAt at cb
      have hx1 : (i : Int) + 1 < ls.length := by omega
      have et : ((i : Int) + 1).toNat = i + 1 := by omega
      have ew : IntKind.i64.wrap ((i : Int) + 1) = (i : Int) + 1 := wrapI64 _ (by omega) (by omega)
      generalize ls[i + 1] = y at *
      refine ⟨fun l w' => Kn w (cellsOf (cellsOf (cellsOf [] b 0 (stpC s (.slice ad s.bases.length c))) b7 0 (stpC s (.slice ad s.bases.length c))) g13 0 (lnkC x (.slice aad x.spend.answers.length ac))) w' ∧ l = [.int .i64 (lendM s y.ticket x.terms)], ?_, ?_⟩
      · repeat (any_goals (first
        | (with_reducible ((refine idCond ?_); refine yL ?_))
        | ((with_reducible refine idO ?_); (with_reducible refine oM_gen fun Kv hK=>?_); simp [go_sem, hx1]; (try simp (disch := omega) only [wrapI64, wrapU8, wrapU32, wrapU64]); refine hK _ _ ?_; clear hK; clear Kv)))
        refine ⟨Kn w _, hk.drew, rfl, ?_⟩
        clear hk
        repeat (any_goals (first
        | (with_reducible refine pureH_in ?_)
        | ((with_reducible refine idOH ?_); (with_reducible refine oH_of ⟨_, rfl⟩ (fun W0 hW0 => by (refine oM_gen (fun Kv hK => ?_)); simp [go_sem, hW0.cells, cb _ hW0.below, et, ew]; (first | exact hK _ _ ⟨rfl, rfl⟩ | exact ⟨by omega, hK _ _ ⟨rfl, rfl⟩⟩)) ?_))))
        refine ⟨Nx, fun w5 hk => ?_⟩
        exact LendDare_ok s y.ticket x.terms (by omega) hyt (hs.next hk.below) (hL.below hk.below hL.size) (fun w6 h6 => ⟨hk.next h6, rfl⟩)
      · rintro _ _ w7 ⟨hk, rfl⟩
        by_cases hd : x.spend.dare = lendM s y.ticket x.terms
        · rw [decide_eq_true hd, Bool.true_and] at ha
          repeat (any_goals (first
          | (with_reducible ((refine idCond ?_); refine yM ?_))
          | ((with_reducible refine idO ?_); (with_reducible refine oM_gen fun Kv hK=>?_); simp [go_sem, hk.cells, hd]; (try simp (disch := omega) only [wrapI64, wrapU8, wrapU32, wrapU64]); refine hK _ _ ?_; clear hK; clear Kv)))
          refine ⟨⟨⟨hk.below, hk.cells.2.2.2.2.2.2.2.2.2⟩, _, _, _, _, i + 1, rfl, by omega, fun _ => ha, fun h => by omega⟩, ?_⟩
          simp only [flMu_eq]; omega
        · rw [decide_eq_false hd, Bool.false_and] at ha
          subst ha
          repeat (any_goals (first
          | (with_reducible ((refine idCond ?_); refine yL ?_))
          | ((with_reducible refine idO ?_); (with_reducible refine oM_gen fun Kv hK=>?_); simp [go_sem, hk.cells, hd]; refine hK _ _ ?_; clear hK; clear Kv)))
          exact k _ hk.below
    · have hi1 : i + 1 = ls.length := by omega
      rw [List.drop_of_length_le (by omega), chainM, elk, Bool.true_and] at ha
      have hx1 : ¬ ((i : Int) + 1 < ls.length) := by omega
      refine ⟨fun l w' => Kn w (cellsOf (cellsOf (cellsOf [] b 0 (stpC s (.slice ad s.bases.length c))) b7 0 (stpC s (.slice ad s.bases.length c))) g13 0 (lnkC x (.slice aad x.spend.answers.length ac))) w' ∧ l = [.int .i64 dare], ?_, ?_⟩
      · repeat (any_goals (first
        | (with_reducible ((refine idCond ?_); refine yM ?_))
        | ((with_reducible refine idO ?_); (with_reducible refine oM_gen fun Kv hK=>?_); simp [go_sem, hx1]; (try simp (disch := omega) only [wrapI64, wrapU8, wrapU32, wrapU64]); refine hK _ _ ?_; clear hK; clear Kv)))
        exact ⟨hk, rfl⟩
      · rintro _ _ w7 ⟨hk, rfl⟩
        by_cases hd : x.spend.dare = dare
        · rw [decide_eq_true hd, Bool.true_and] at ha
          repeat (any_goals (first
          | (with_reducible ((refine idCond ?_); refine yM ?_))
          | ((with_reducible refine idO ?_); (with_reducible refine oM_gen fun Kv hK=>?_); simp [go_sem, hk.cells, hd]; (try simp (disch := omega) only [wrapI64, wrapU8, wrapU32, wrapU64]); refine hK _ _ ?_; clear hK; clear Kv)))
          refine ⟨⟨⟨hk.below, hk.cells.2.2.2.2.2.2.2.2.2⟩, _, _, _, _, i + 1, rfl, by omega, fun h => by omega, fun _ x' hx' => ?_⟩, ?_⟩
          · rw [hlast hi1] at hx'
            cases hx'
            exact ha
          simp only [flMu_eq]; omega
        · rw [decide_eq_false hd, Bool.false_and] at ha
          subst ha
          repeat (any_goals (first
          | (with_reducible ((refine idCond ?_); refine yL ?_))
          | ((with_reducible refine idO ?_); (with_reducible refine oM_gen fun Kv hK=>?_); simp [go_sem, hk.cells, hd]; refine hK _ _ ?_; clear hK; clear Kv)))
          exact k _ hk.below
end
end Go.Proofs
namespace FdPoly
def ev : List Int → Int → Int
  | [], _ => 0
  | c :: p, x => c + x * ev p x
def U (q a : Int) : Prop := ∃ u, q ∣ u * a - 1
theorem U.cancel {q a b : Int} (h : U q a) (hd : q ∣ a * b) : q ∣ b := by
  obtain ⟨u, k, hk⟩ := h
  obtain ⟨m, hm⟩ := hd
  exact ⟨u * m - k * b, by grind⟩
def Z (q : Int) (p : List Int) : Prop := ∀ c ∈ p, q ∣ c
theorem Z.ev {q : Int} : ∀ {p : List Int}, Z q p → ∀ x, q ∣ FdPoly.ev p x
  | [], _, _ => Int.dvd_zero q
  | c :: p, h, x => by
    have h1 := h c (by simp)
    have h2 := Z.ev (p := p) (fun d hd => h d (by simp [hd])) x
    exact Int.dvd_add h1 (Int.dvd_mul_of_dvd_right h2)
def Apart (q : Int) : List Int → Prop
  | [] => True
  | a :: xs => (∀ x ∈ xs, U q (x - a)) ∧ Apart q xs
def addL : List Int → List Int → List Int
  | [], p => p
  | p, [] => p
  | c :: p, d :: r => (c + d) :: addL p r
def scl (k : Int) (p : List Int) : List Int := p.map (fun c => k * c)
theorem addL_ev (x : Int) : ∀ p r : List Int, ev (addL p r) x = ev p x + ev r x
  | [], r => by simp [addL, ev]
  | c :: p, [] => by simp [addL, ev]
  | c :: p, d :: r => by
    simp only [addL, ev, addL_ev x p r]
    grind
theorem addL_len : ∀ p r : List Int, (addL p r).length = max p.length r.length
  | [], r => by simp [addL]
  | c :: p, [] => by simp [addL]
  | c :: p, d :: r => by simp only [addL, List.length_cons, addL_len p r]; omega
theorem addL_get : ∀ (p r : List Int) (i : Nat), (addL p r).getD i 0 = p.getD i 0 + r.getD i 0
  | [], r, i => by simp [addL]
  | c :: p, [], i => by simp [addL]
  | c :: p, d :: r, 0 => by simp [addL]
  | c :: p, d :: r, i + 1 => by
    have := addL_get p r i
    simpa [addL] using this
theorem scl_ev (k x : Int) (p : List Int) : ev (scl k p) x = k * ev p x := by
  induction p with
  | nil => simp [scl, ev]
  | cons c p ih =>
    have e : scl k (c :: p) = (k * c) :: scl k p := rfl
    rw [e]
    simp only [ev, ih]
    grind
theorem scl_len (k : Int) (p : List Int) : (scl k p).length = p.length := by simp [scl]
theorem scl_get (k : Int) (p : List Int) (i : Nat) : (scl k p).getD i 0 = k * p.getD i 0 := by
  induction p generalizing i with
  | nil => simp [scl]
  | cons c p ih =>
    cases i with
    | zero => simp [scl]
    | succ i => simpa [scl] using ih i
def lin (a : Int) (p : List Int) : List Int := addL (0 :: p) (scl (-a) p)
theorem lin_ev (a x : Int) (p : List Int) : ev (lin a p) x = (x - a) * ev p x := by
  unfold lin
  rw [addL_ev, scl_ev]
  simp only [ev]
  grind
theorem lin_len (a : Int) (p : List Int) : (lin a p).length = p.length + 1 := by
  unfold lin
  rw [addL_len, scl_len, List.length_cons]; omega
theorem lin_top (a : Int) (p : List Int) : (lin a p).getD p.length 0 = p.getD (p.length - 1) 0 := by
  unfold lin
  rw [addL_get, scl_get]
  have h1 : p.getD p.length 0 = 0 := by simp [List.getD]
  rw [h1]
  cases p with
  | nil => simp
  | cons c p => simp
structure Ip (q : Int) (X Y : Nat → Int) (i n : Nat) (p : List Int) (t : Int) : Prop where
  len : p.length = n + 1
  val : ∀ j, i ≤ j → j ≤ i + n → q ∣ ev p (X j) - Y j
  top : q ∣ p.getD n 0 - t
theorem Ip.step {q : Int} {X Y : Nat → Int} {i n : Nat} {p r : List Int} {t s u : Int} (h : Ip q X Y i n p t) (h' : Ip q X Y (i + 1) n r s) (hu : q ∣ u * (X (i + n + 1) - X i) - 1) :
    Ip q X Y i (n + 1) (scl u (addL (lin (X i) r) (scl (-1) (lin (X (i + n + 1)) p)))) ((s - t) * u) := by
  refine ⟨?_, fun j h1 h2 => ?_, ?_⟩
  · rw [scl_len, addL_len, scl_len, lin_len, lin_len, h.len, h'.len]; omega
  · rw [scl_ev, addL_ev, scl_ev, lin_ev, lin_ev]
    obtain ⟨k, hk⟩ := hu
    by_cases hj : j = i
    · subst hj
      obtain ⟨a, ha⟩ := h.val j (Nat.le_refl _) (by omega)
      generalize ev p (X j) = P at *
      generalize ev r (X j) = R at *
      generalize X (j + n + 1) = xn at *
      generalize X j = xj at *
      generalize Y j = y at *
      exact ⟨u * (xn - xj) * a + k * y, by grind⟩
    · by_cases hj2 : j = i + n + 1
      · subst hj2
        obtain ⟨a, ha⟩ := h'.val (i + n + 1) (by omega) (by omega)
        generalize ev p (X (i + n + 1)) = P at *
        generalize ev r (X (i + n + 1)) = R at *
        generalize X (i + n + 1) = xn at *
        generalize X i = xj at *
        generalize Y (i + n + 1) = y at *
        exact ⟨u * (xn - xj) * a + k * y, by grind⟩
      · obtain ⟨a, ha⟩ := h.val j (by omega) (by omega)
        obtain ⟨b, hb⟩ := h'.val j (by omega) (by omega)
        generalize ev p (X j) = P at *
        generalize ev r (X j) = R at *
        generalize X (i + n + 1) = xn at *
        generalize X i = xi at *
        generalize X j = xj at *
        generalize Y j = y at *
        exact ⟨u * (xj - xi) * b - u * (xj - xn) * a + k * y, by grind⟩
  · rw [scl_get, addL_get, scl_get]
    have e1 : (lin (X i) r).getD (n + 1) 0 = r.getD n 0 := by have := lin_top (X i) r; rw [h'.len] at this; exact this
    have e2 : (lin (X (i + n + 1)) p).getD (n + 1) 0 = p.getD n 0 := by have := lin_top (X (i + n + 1)) p; rw [h.len] at this; exact this
    rw [e1, e2]
    obtain ⟨a, ha⟩ := h.top
    obtain ⟨b, hb⟩ := h'.top
    exact ⟨u * b - u * a, by grind⟩
theorem Ip.one (q : Int) (X Y : Nat → Int) (i : Nat) : Ip q X Y i 0 [Y i] (Y i) :=
  ⟨rfl, fun j h1 h2 => by
    have : j = i := by omega
    subst this
    simp [ev], by simp⟩
def pr (X : Nat → Int) : Nat → List Int
  | 0 => [1]
  | n + 1 => lin (X n) (pr X n)
end FdPoly
namespace FdPoly
open FdSpec
theorem addM_dvd {n a b : Int} (hn : okN n) : n ∣ addM n a b - (a + b) := by
  unfold addM; rw [if_pos hn]
  have := Int.emod_add_mul_ediv (a + b) n
  exact ⟨-((a + b) / n), by grind⟩
theorem subM_dvd {n a b : Int} (hn : okN n) : n ∣ subM n a b - (a - b) := by
  unfold subM; rw [if_pos hn]
  have := Int.emod_add_mul_ediv (a - b) n
  exact ⟨-((a - b) / n), by grind⟩
theorem mulM_dvd {n a b : Int} (hn : okN n) : n ∣ mulM n a b - a * b := by
  unfold mulM; rw [if_pos hn]
  have := Int.emod_add_mul_ediv (a * b) n
  exact ⟨-(a * b / n), by grind⟩
theorem mod_dvd (n a : Int) : n ∣ a % n - a := by
  have := Int.emod_add_mul_ediv a n
  exact ⟨-(a / n), by grind⟩
theorem euc_inv {n a : Int} (hn : okN n) : ∀ (m : Nat) (r s x y α β : Int), s.toNat ≤ m → 0 ≤ r → 0 ≤ s → α * r + β * s = 1 → n ∣ x * a - r → n ∣ y * a - s → (eucAll n r s x y).1 = 1 ∧ n ∣ (eucAll n r s x y).2 * a - 1
  | m, r, s, x, y, α, β, hm, hr, hs, hb, hx, hy => by
    by_cases h0 : s = 0
    · subst h0
      have e : eucAll n r 0 x y = (r, x) := euc_zero n _ r x y
      rw [e]
      have h1 : α * r = 1 := by omega
      have h2 : r = 1 := by
        have : r ∣ 1 := ⟨α, by rw [Int.mul_comm]; exact h1.symm⟩
        have := Int.le_of_dvd (by omega) this
        by_cases h3 : r = 0
        · rw [h3] at h1; omega
        · omega
      subst h2
      exact ⟨rfl, hx⟩
    · have hs' : 0 < s := by omega
      rw [euc_step n r s x y hs']
      have h1 := Int.emod_nonneg r h0
      have h2 := Int.emod_lt_of_pos r hs'
      have h3 := Int.emod_add_mul_ediv r s
      have h4 : n ∣ subM n x (mulM n (r / s) y) * a - r % s := by
        obtain ⟨k1, e1⟩ := subM_dvd (a := x) (b := mulM n (r / s) y) hn
        obtain ⟨k2, e2⟩ := mulM_dvd (a := r / s) (b := y) hn
        obtain ⟨k3, e3⟩ := hx
        obtain ⟨k4, e4⟩ := hy
        generalize subM n x (mulM n (r / s) y) = A at *
        generalize mulM n (r / s) y = B at *
        generalize r / s = d at *
        generalize r % s = e at *
        exact ⟨k1 * a - k2 * a + k3 - d * k4, by grind⟩
      cases m with
      | zero => omega
      | succ m => exact euc_inv hn m s (r % s) y _ (β + α * (r / s)) α (by omega) hs h1 (by generalize r / s = d at *; generalize r % s = e at *; grind) hy h4
theorem invM_some {n a : Int} (hn : okN n) (h : U n a) : ∃ x, invM n a = some x ∧ n ∣ x * a - 1 ∧ 0 ≤ x ∧ x < n := by
  obtain ⟨u, k, hk⟩ := h
  have hp : 0 < n := by have := hn.1; omega
  have h1 := Int.emod_nonneg a (b := n) (by omega)
  have h3 := Int.emod_add_mul_ediv a n
  obtain ⟨e1, e2⟩ := euc_inv (a := a) hn _ n (a % n) 0 1 (u * (a / n) - k) u (Nat.le_refl _) (by omega) h1 (by generalize a / n = d at *; generalize a % n = e at *; grind) ⟨-1, by omega⟩ (by
    obtain ⟨m, hm⟩ := mod_dvd n a
    exact ⟨-m, by grind⟩)
  refine ⟨(eucAll n n (a % n) 0 1).2 % n, ?_, ?_, Int.emod_nonneg _ (by omega), Int.emod_lt_of_pos _ hp⟩
  · unfold invM
    rw [if_pos hn, if_pos e1]
  · obtain ⟨m, hm⟩ := mod_dvd n (eucAll n n (a % n) 0 1).2
    obtain ⟨l, hl⟩ := e2
    generalize (eucAll n n (a % n) 0 1).2 = z at *
    generalize z % n = zz at *
    exact ⟨m * a + l, by grind⟩
end FdPoly
namespace FdPoly
open FdSpec
theorem res_eq {q a b : Int} (h : q ∣ a - b) (ha : 0 ≤ a ∧ a < q) (hb : 0 ≤ b ∧ b < q) : a = b := by
  obtain ⟨k, hk⟩ := h
  have h1 : k < 1 := by
    refine Classical.byContradiction fun hn => ?_
    have : q * 1 ≤ q * k := Int.mul_le_mul_of_nonneg_left (by omega) (by omega)
    omega
  have h2 : -1 < k := by
    refine Classical.byContradiction fun hn => ?_
    have : q * k ≤ q * (-1) := Int.mul_le_mul_of_nonneg_left (by omega) (by omega)
    omega
  have : k = 0 := by omega
  subst this
  omega
theorem Ip.cong {q : Int} {X Y : Nat → Int} {i n : Nat} {p : List Int} {t s : Int} (h : Ip q X Y i n p t) (e : q ∣ t - s) : Ip q X Y i n p s := by
  refine ⟨h.len, h.val, ?_⟩
  have := Int.dvd_add h.top e
  have e2 : p.getD n 0 - t + (t - s) = p.getD n 0 - s := by omega
  rwa [e2] at this
theorem U.cong {q a b : Int} (h : U q a) (e : q ∣ b - a) : U q b := by
  obtain ⟨u, k, hk⟩ := h
  obtain ⟨m, hm⟩ := e
  exact ⟨u, k + u * m, by grind⟩
section
variable {q : Int} {xs ys : List Int}
def d0 (q : Int) (ys : List Int) : List Int := ys.map (fun y => y % q)
end
def hNew (q x d : Int) (o : List Int) (n : Nat) : Int := if n = 0 then addM q (subM q 0 (mulM q (o.getD 0 0) x)) d else addM q (subM q 0 (mulM q (o.getD n 0) x)) (o.getD (n - 1) 0)
def hStep (q x d : Int) (o : List Int) : List Int := (List.range o.length).map (hNew q x d o)
theorem hStep_get (q x d : Int) (o : List Int) (n : Nat) : (hStep q x d o).getD n 0 = if n < o.length then hNew q x d o n else 0 := by
  unfold hStep
  rw [List.getD_eq_getElem?_getD, List.getElem?_map]
  by_cases h : n < o.length
  · rw [List.getElem?_range h, if_pos h]; rfl
  · rw [if_neg h, List.getElem?_eq_none (by simp; omega)]; rfl
def Zr (c : Nat) (o : List Int) : Prop := ∀ n, c ≤ n → o.getD n 0 = 0
theorem mul0 {q x : Int} (hq : okN q) : mulM q 0 x = 0 := by unfold mulM; rw [if_pos hq]; simp
theorem sub0 {q : Int} (hq : okN q) : subM q 0 0 = 0 := by unfold subM; rw [if_pos hq]; simp
theorem add0 {q : Int} (hq : okN q) : addM q 0 0 = 0 := by unfold addM; rw [if_pos hq]; simp
theorem Zr.step {q x d : Int} (hq : okN q) {c : Nat} {o : List Int} (h : Zr c o) : Zr (c + 1) (hStep q x d o) := by
  intro n hn
  rw [hStep_get]
  split
  · unfold hNew
    rw [if_neg (by omega), h n (by omega), h (n - 1) (by omega), mul0 hq, sub0 hq, add0 hq]
  · rfl
end FdPoly
namespace FdPoly
open FdSpec
theorem U.mul {q a b : Int} (ha : U q a) (hb : U q b) : U q (a * b) := by
  obtain ⟨u, k, hk⟩ := ha
  obtain ⟨v, m, hm⟩ := hb
  exact ⟨u * v, v * b * k + m, by grind⟩
theorem U.neg {q a : Int} (ha : U q a) : U q (-a) := by
  obtain ⟨u, k, hk⟩ := ha
  exact ⟨-u, k, by grind⟩
theorem U.one (q : Int) : U q 1 := ⟨1, 0, by omega⟩
theorem prime_small {q : Int} (h : primeM q = true) : q ∈ smallP ∨ ∀ p ∈ smallP, q % p ≠ 0 := by
  unfold primeM at h
  split at h
  · cases h
  · cases hf : smallP.find? (fun p => decide (q % p = 0)) with
    | some p =>
      rw [hf] at h
      have hm := List.mem_of_find?_eq_some hf
      have : q = p := by simpa using h
      rw [this]; exact .inl hm
    | none =>
      rw [List.find?_eq_none] at hf
      exact .inr (fun p hp => by simpa using hf p hp)
theorem U.list {q : Int} (l : List Int) (h : ∀ x ∈ l, U q x) {d : Int} (hd : d = l.foldr (· * ·) 1) : U q d := by
  subst hd
  induction l with
  | nil => exact U.one q
  | cons x l ih => exact (h x (by simp)).mul (ih (fun y hy => h y (by simp [hy])))
end FdPoly
namespace GrLaw
open FdSpec FdPoly TkSpec
def Cg (P a b : Int) : Prop := P ∣ a - b
section
variable {P a b c d x y : Int}
theorem Cg.refl (P a : Int) : Cg P a a := ⟨0, by omega⟩
theorem Cg.symm (h : Cg P a b) : Cg P b a := by obtain ⟨k, hk⟩ := h; exact ⟨-k, by grind⟩
theorem Cg.trans (h : Cg P a b) (h2 : Cg P b c) : Cg P a c := by obtain ⟨k, hk⟩ := h; obtain ⟨m, hm⟩ := h2; exact ⟨k + m, by grind⟩
theorem Cg.mul (h : Cg P a b) (h2 : Cg P c d) : Cg P (a * c) (b * d) := by obtain ⟨k, hk⟩ := h; obtain ⟨m, hm⟩ := h2; exact ⟨k * c + b * m, by grind⟩
theorem Cg.pow (h : Cg P a b) : ∀ n : Nat, Cg P (a ^ n) (b ^ n)
  | 0 => by rw [Int.pow_zero, Int.pow_zero]; exact Cg.refl _ _
  | n + 1 => by rw [Int.pow_succ, Int.pow_succ]; exact (Cg.pow h n).mul h
theorem Cg.mod (P a : Int) : Cg P (a % P) a := mod_dvd P a
theorem Cg.emod (h : Cg P a b) : a % P = b % P := by
  obtain ⟨k, hk⟩ := h
  have : a = b + P * k := by omega
  rw [this, Int.add_mul_emod_self_left]
theorem Cg.of_emod (h : a % P = b % P) : Cg P a b := (Cg.mod P a).symm.trans (by rw [h]; exact Cg.mod P b)
theorem Cg.eq (h : Cg P a b) (ha : 0 ≤ a ∧ a < P) (hb : 0 ≤ b ∧ b < P) : a = b := res_eq h ha hb
theorem U.of_cg (h : Cg P (b * a) 1) : U P a := ⟨b, h⟩
theorem U.cg (h : U P a) (e : Cg P b a) : U P b := h.cong e
theorem Cg.cancel (hu : U P c) (h : Cg P (a * c) (b * c)) : Cg P a b := by
  refine hu.cancel ?_
  obtain ⟨k, hk⟩ := h
  exact ⟨k, by grind⟩
theorem pow_mod {n : Nat} (h : Cg P (x ^ n) 1) (k : Nat) : Cg P (x ^ k) (x ^ (k % n)) := by
  have e : x ^ k = (x ^ n) ^ (k / n) * x ^ (k % n) := by
    rw [← Int.pow_mul, ← Int.pow_add, Nat.div_add_mod]
  rw [e]
  have h1 := h.pow (k / n)
  rw [Int.one_pow] at h1
  have := h1.mul (Cg.refl P (x ^ (k % n)))
  rwa [Int.one_mul] at this
theorem pow_same {n : Nat} (h : Cg P (x ^ n) 1) {j k : Nat} (e : j % n = k % n) : Cg P (x ^ j) (x ^ k) := by
  have h1 := pow_mod h j
  rw [e] at h1
  exact h1.trans (pow_mod h k).symm
end
structure Gv (g : Grp) : Prop where
  q0 : 5 ≤ g.Q
  q1 : g.Q < 1152921504606846976
  p : g.P = 2 * g.Q + 1
  g0 : 2 ≤ g.G
  g1 : g.G < g.P
  pq : primeM g.Q = true
  gq : pw g.P g.G g.Q.toNat = 1
theorem gv_of {g : Grp} (h : validG g = true) : Gv g := by
  unfold validG at h
  split at h
  · cases h
  · simp only [Bool.and_eq_true, decide_eq_true_eq] at h
    exact ⟨by omega, by omega, by omega, by omega, by omega, h.1.1, h.2⟩
def Ex (g : Grp) (x k : Int) : Int := x ^ (k % g.Q).toNat
def El (g : Grp) (x : Int) : Prop := Cg g.P (x ^ g.Q.toNat) 1
section
variable {g : Grp} {x y a b : Int}
theorem Gv.okP (h : Gv g) : okN g.P := by have := h.q0; have := h.q1; have := h.p; exact ⟨by omega, by omega⟩
theorem Gv.okQ (h : Gv g) : okN g.Q := by have := h.q0; have := h.q1; exact ⟨by omega, by omega⟩
theorem El.of_pw (h : Gv g) (hx : pw g.P x g.Q.toNat = 1) : El g x := by
  refine Cg.of_emod ?_
  have e : x ^ g.Q.toNat % g.P = 1 := hx
  rw [e, Int.emod_eq_of_lt (by omega) (by have := h.q0; have := h.p; omega)]
theorem El.of_elem (h : Gv g) (hx : elemG g x = true) : El g x ∧ 1 ≤ x ∧ x < g.P := by
  unfold elemG at hx
  simp only [Bool.and_eq_true, decide_eq_true_eq] at hx
  exact ⟨El.of_pw h hx.2, hx.1.1.1, hx.1.1.2⟩
theorem El.gen (h : Gv g) : El g g.G := El.of_pw h h.gq
theorem El.mul (hx : El g x) (hy : El g y) : El g (x * y) := by
  unfold El
  rw [Int.mul_pow]
  have := Cg.mul hx hy
  rwa [Int.one_mul] at this
theorem El.cg (hx : El g x) (h : Cg g.P y x) : El g y := (h.pow _).trans hx
theorem El.pow (hx : El g x) (n : Nat) : El g (x ^ n) := by
  unfold El
  rw [← Int.pow_mul, Nat.mul_comm, Int.pow_mul]
  have := Cg.pow hx n
  rwa [Int.one_pow] at this
theorem El.unit (h : Gv g) (hx : El g x) : U g.P x := by
  refine U.of_cg (b := x ^ (g.Q.toNat - 1)) ?_
  have e : x ^ (g.Q.toNat - 1) * x = x ^ g.Q.toNat := by
    rw [← Int.pow_succ]; congr 1; have := h.q0; omega
  rw [e]; exact hx
theorem toNat_mod {Q k : Int} (hQ : 0 < Q) : (((k % Q).toNat : Nat) : Int) = k % Q := Int.toNat_of_nonneg (Int.emod_nonneg _ (by omega))
theorem nat_mod {Q : Int} (hQ : 0 < Q) {m n : Nat} (h : (m : Int) % Q = (n : Int) % Q) : m % Q.toNat = n % Q.toNat := by
  have hq : ((Q.toNat : Nat) : Int) = Q := Int.toNat_of_nonneg (by omega)
  have : ((m % Q.toNat : Nat) : Int) = ((n % Q.toNat : Nat) : Int) := by
    rw [Int.natCast_emod, Int.natCast_emod, hq]; exact h
  omega
theorem Ex_add (h : Gv g) (hx : El g x) (a b : Int) : Cg g.P (Ex g x (a + b)) (Ex g x a * Ex g x b) := by
  unfold Ex
  rw [← Int.pow_add]
  have hQ : 0 < g.Q := by have := h.q0; omega
  refine pow_same hx (nat_mod hQ ?_)
  push_cast
  rw [toNat_mod hQ, toNat_mod hQ, toNat_mod hQ]
  rw [Int.emod_emod_of_dvd _ (Int.dvd_refl _), ← Int.add_emod]
theorem Ex_mul (h : Gv g) (hx : El g x) (a b : Int) : Cg g.P (Ex g x (a * b)) (Ex g x a ^ (b % g.Q).toNat) := by
  unfold Ex
  rw [← Int.pow_mul]
  have hQ : 0 < g.Q := by have := h.q0; omega
  refine pow_same hx (nat_mod hQ ?_)
  push_cast
  rw [toNat_mod hQ, toNat_mod hQ, toNat_mod hQ]
  rw [Int.emod_emod_of_dvd _ (Int.dvd_refl _), ← Int.mul_emod]
theorem Ex_cong (e : a % g.Q = b % g.Q) : Ex g x a = Ex g x b := by unfold Ex; rw [e]
theorem Ex_zero (x : Int) : Ex g x 0 = 1 := by simp [Ex]
theorem Ex_cg (h : Cg g.P x y) (a : Int) : Cg g.P (Ex g x a) (Ex g y a) := h.pow _
theorem El.ex (hx : El g x) (a : Int) : El g (Ex g x a) := hx.pow _
theorem powerG_eq (h : Gv g) (x k : Int) : powerG g x k = Ex g x k % g.P := by
  unfold powerG
  rw [if_pos ⟨h.okP, h.okQ⟩]; rfl
theorem powerG_cg (h : Gv g) (x k : Int) : Cg g.P (powerG g x k) (Ex g x k) := by rw [powerG_eq h]; exact Cg.mod _ _
theorem powerG_range (h : Gv g) (x k : Int) : 0 ≤ powerG g x k ∧ powerG g x k < g.P := by
  rw [powerG_eq h]
  have := h.okP.1
  exact ⟨Int.emod_nonneg _ (by omega), Int.emod_lt_of_pos _ (by omega)⟩
theorem timesG_cg (h : Gv g) (a b : Int) : Cg g.P (timesG g a b) (a * b) := by
  unfold timesG
  rw [if_pos h.okQ]
  exact mulM_dvd h.okP
theorem timesG_range (h : Gv g) (a b : Int) : 0 ≤ timesG g a b ∧ timesG g a b < g.P := by
  unfold timesG
  rw [if_pos h.okQ]
  exact mulM_range _ _ _ h.okP
def PX (g : Grp) : List (Int × Int) → Int
  | [] => 1
  | (b, e) :: l => Ex g b e * PX g l
theorem prodL_cg (h : Gv g) : ∀ (l : List (Int × Int)) (out : Int), Cg g.P (prodL g out l) (out * PX g l)
  | [], out => by simp [prodL, PX]; exact Cg.refl _ _
  | (b, e) :: l, out => by
    rw [prodL, PX]
    refine (prodL_cg h l _).trans ?_
    have h1 : Cg g.P (mulM g.P out (powerG g b e)) (out * Ex g b e) := (show Cg g.P _ _ from mulM_dvd h.okP).trans ((Cg.refl _ out).mul (powerG_cg h b e))
    have := h1.mul (Cg.refl g.P (PX g l))
    have e2 : out * Ex g b e * PX g l = out * (Ex g b e * PX g l) := Int.mul_assoc _ _ _
    rwa [e2] at this
theorem prodL_range (h : Gv g) : ∀ (l : List (Int × Int)) (out : Int), 0 ≤ out ∧ out < g.P → 0 ≤ prodL g out l ∧ prodL g out l < g.P
  | [], out, ho => ho
  | (b, e) :: l, out, _ => by rw [prodL]; exact prodL_range h l _ (mulM_range _ _ _ h.okP)
end
end GrLaw
namespace FdPr
open FdSpec FdPoly GrLaw Mr
theorem mrUp_ex {n : Nat} (hn : 2 ≤ n) : ∀ (k : Nat) (x : Int), mrUp n k x = true → ∃ i, i < k ∧ E n (x ^ (2 ^ i)) (-1)
  | 0, x, h => by simp [mrUp] at h
  | k + 1, x, h => by
    rw [mrUp] at h
    split at h
    · rename_i hx
      refine ⟨0, by omega, ?_⟩
      rw [hx, Nat.pow_zero, Int.pow_succ, Int.pow_zero]
      exact ⟨1, by omega⟩
    · obtain ⟨i, hi, h1⟩ := mrUp_ex hn k _ h
      refine ⟨i + 1, by omega, ?_⟩
      have h2 : E n ((x * x) ^ 2 ^ i) ((x * x % n) ^ 2 ^ i) := (E.emod n (x * x)).symm.pow _
      have e : x ^ 2 ^ (i + 1) = (x * x) ^ 2 ^ i := by
        rw [Nat.pow_succ, Nat.mul_comm, Int.pow_mul]
        congr 1
        rw [Int.pow_succ, Int.pow_succ, Int.pow_zero, Int.one_mul]
      rw [e]
      exact h2.trans h1
theorem passes_sp {n : Nat} {b : Nat} (hn : 2 ≤ n) (h : passes n b = true) {k d : Nat} (hk : k = FdSpec.tz 64 (n - 1)) (hd : d = (n - 1) / 2 ^ k) (e : n - 1 = 2 ^ k * d) : Sp n d b ∧ E n ((b : Int) ^ (n - 1)) 1 := by
  have e1 : ((n : Int) - 1).toNat = n - 1 := by omega
  unfold passes at h
  simp only [e1] at h
  rw [← hk, ← hd] at h
  have hx : E n (pw n b d) ((b : Int) ^ d) := E.emod n _
  split at h
  · rename_i h1
    rw [h1] at hx
    have h2 : E n ((b : Int) ^ d) 1 := hx.symm
    refine ⟨Or.inl h2, ?_⟩
    rw [e, Nat.mul_comm, Int.pow_mul]
    exact h2.one_pow _
  · obtain ⟨i, hi, h1⟩ := mrUp_ex hn k _ h
    have h2 : E n ((b : Int) ^ (2 ^ i * d)) (-1) := by
      rw [Nat.mul_comm, Int.pow_mul]
      exact (hx.pow _).symm.trans h1
    refine ⟨Or.inr ⟨i, h2⟩, ?_⟩
    have h3 := h2.pow (2 ^ (k - i))
    rw [← Int.pow_mul, neg_one_pow, if_pos] at h3
    · have e2 : 2 ^ i * d * 2 ^ (k - i) = n - 1 := by
        have : 2 ^ k = 2 ^ i * 2 ^ (k - i) := by rw [← Nat.pow_add]; congr 1; omega
        rw [e, this]; grind
      rwa [e2] at h3
    · have : 2 ^ (k - i) = 2 * 2 ^ (k - i - 1) := by rw [← Nat.pow_succ']; congr 1; omega
      omega
theorem small_pr : ∀ p < 38, 2 ≤ p → (∀ d, d < p → 2 ≤ d → ¬ d ∣ p) → p ∈ Bs := by decide +kernel
theorem pr_mem {p : Nat} (hp : Pr p) (h : p ≤ 37) : p ∈ Bs := small_pr p (by omega) hp.1 fun d h1 h2 hd => by
  rcases hp.2 d hd with h3 | h3 <;> omega
theorem smallP_eq : smallP = Bs.map Int.ofNat := rfl
theorem test_facts {n : Int} (h : primeM n = true) (hs : n ∉ smallP) : 2 ≤ n ∧ (∀ a ∈ Bs, n.toNat % a ≠ 0) ∧ ∃ d, d % 2 = 1 ∧ ∀ a ∈ Bs, Sp n.toNat d a ∧ E n.toNat ((a : Int) ^ (n.toNat - 1)) 1 := by
  have h1 := (prime_small h).resolve_left hs
  unfold primeM at h
  split at h
  · cases h
  · rename_i h0
    have hn : 2 ≤ n := by omega
    have hb : n < 2305843009213693952 := by omega
    have hN : ((n.toNat : Nat) : Int) = n := Int.toNat_of_nonneg (by omega)
    have hz : ∀ a ∈ Bs, n.toNat % a ≠ 0 := by
      intro a ha h2
      have h3 := h1 (a : Int) (by rw [smallP_eq]; exact List.mem_map.mpr ⟨a, ha, rfl⟩)
      apply h3
      rw [← hN, ← Int.natCast_emod, h2]; rfl
    cases hf : smallP.find? (fun p => decide (n % p = 0)) with
    | some p =>
      have hm := List.mem_of_find?_eq_some hf
      have h2 := List.find?_some hf
      exact absurd (by simpa using h2) (h1 p hm)
    | none =>
      rw [hf] at h
      have hall := List.all_eq_true.mp h
      obtain ⟨hk, j, e⟩ := tz_lt 64 (n.toNat - 1) (by omega) (by
        have : (2 : Nat) ^ 64 = 18446744073709551616 := by decide
        omega)
      refine ⟨hn, hz, 2 * j + 1, by omega, fun a ha => ?_⟩
      have hp := hall (a : Int) (by rw [smallP_eq]; exact List.mem_map.mpr ⟨a, ha, rfl⟩)
      refine passes_sp (by omega) (by rw [hN]; exact hp) rfl ?_ e
      rw [e]
      conv => rhs; rw [← e]
      have h4 : 0 < 2 ^ FdSpec.tz 64 (n.toNat - 1) := Nat.two_pow_pos _
      conv => rhs; lhs; rw [e]
      rw [Nat.mul_div_cancel_left _ h4]
theorem mem_pr {n : Int} (h : n ∈ smallP) : Pr n.toNat := by
  rw [smallP_eq] at h
  obtain ⟨a, ha, rfl⟩ := List.mem_map.mp h
  exact pr_small a ha
theorem prime_Q {g : Grp} (h : validG g = true) : Pr g.Q.toNat := by
  have hv := gv_of h
  by_cases hs : g.Q ∈ smallP
  · exact mem_pr hs
  · obtain ⟨hn, hz, d, hd, hall⟩ := test_facts hv.pq hs
    have hP : primeM g.P = true := by
      unfold validG at h
      split at h
      · cases h
      · simp only [Bool.and_eq_true, decide_eq_true_eq] at h
        exact h.1.2
    have q0 := hv.q0
    have q1 := hv.q1
    have hp := hv.p
    have h3 : g.P % 3 ≠ 0 := by
      intro h3
      rcases prime_small hP with h4 | h4
      · have : ∀ p ∈ smallP, p % 3 = 0 → p = 3 := by decide
        have := this g.P h4 h3
        omega
      · exact h4 3 (by decide) h3
    have z3 := hz 3 (by decide)
    have z2 := hz 2 (by decide)
    refine Ps.prime (d := d) ⟨by omega, by omega, by omega, fun p hpr hdv => ?_, hd, fun a ha => (hall a ha).1, fun a ha => (hall a ha).2⟩ (by omega)
    apply Classical.byContradiction
    intro hc
    exact hz p (pr_mem hpr (by omega)) (Nat.mod_eq_zero_of_dvd hdv)
theorem prime_P {g : Grp} (h : validG g = true) : Pr g.P.toNat := by
  have hv := gv_of h
  have hQ := prime_Q h
  have hP : primeM g.P = true := by
    unfold validG at h
    split at h
    · cases h
    · simp only [Bool.and_eq_true, decide_eq_true_eq] at h
      exact h.1.2
  by_cases hs : g.P ∈ smallP
  · exact mem_pr hs
  · obtain ⟨hn, hz, d, hd, hall⟩ := test_facts hP hs
    have q0 := hv.q0
    have hp := hv.p
    have eP : g.P.toNat = 2 * g.Q.toNat + 1 := by omega
    have h2 := (hall 2 (by decide)).2
    obtain ⟨r, hr, hrd⟩ := exists_pr g.P.toNat (by omega)
    have hr37 : 37 < r := by
      apply Classical.byContradiction
      intro hc
      exact hz r (pr_mem hr (by omega)) (Nat.mod_eq_zero_of_dvd hrd)
    have r2 := odd_of hr hr37
    have h3 : E r ((2 : Int) ^ Nat.gcd (2 * g.Q.toNat) (r - 1)) 1 := by
      refine gcd_pow _ _ ?_ (fermat hr r2 (show 2 ∈ Bs by decide) hr37)
      have := h2.dvd hrd
      rwa [eP, Nat.add_sub_cancel] at this
    have hrP : r = g.P.toNat := by
      by_cases hq : g.Q.toNat ∣ r - 1
      · obtain ⟨t, ht⟩ := hq
        have hle := Nat.le_of_dvd (by omega) hrd
        have t0 : t ≠ 0 := by rintro rfl; omega
        have t1 : t ≠ 1 := by
          rintro rfl
          rw [Nat.mul_one] at ht
          have q37 : 37 ≤ g.Q.toNat := by omega
          rcases hQ.2 2 (Nat.dvd_of_mod_eq_zero (by omega)) with h5 | h5 <;> omega
        have h5 : g.Q.toNat * 2 ≤ g.Q.toNat * t := Nat.mul_le_mul_left _ (by omega)
        omega
      · exfalso
        have h5 : Nat.gcd g.Q.toNat (r - 1) = 1 := by
          rcases hQ.2 (Nat.gcd g.Q.toNat (r - 1)) (Nat.gcd_dvd_left _ _) with h6 | h6
          · exact h6
          · exact absurd (h6 ▸ Nat.gcd_dvd_right g.Q.toNat (r - 1)) hq
        have h6 : Nat.gcd (2 * g.Q.toNat) (r - 1) ∣ 2 := by
          have h7 : Nat.Coprime (Nat.gcd (2 * g.Q.toNat) (r - 1)) g.Q.toNat := by
            refine Nat.Coprime.coprime_dvd_left (Nat.gcd_dvd_right _ _) ?_
            show Nat.gcd (r - 1) g.Q.toNat = 1
            rw [Nat.gcd_comm]; exact h5
          exact h7.dvd_of_dvd_mul_right (Nat.gcd_dvd_left _ _)
        have h8 := Nat.le_of_dvd (by omega) h6
        have h9 : Nat.gcd (2 * g.Q.toNat) (r - 1) = 0 ∨ Nat.gcd (2 * g.Q.toNat) (r - 1) = 1 ∨ Nat.gcd (2 * g.Q.toNat) (r - 1) = 2 := by omega
        rcases h9 with h9 | h9 | h9
        · rw [h9] at h6; have := Nat.eq_zero_of_zero_dvd h6; omega
        · rw [h9] at h3
          have h10 : (r : Int) ∣ 1 := h3
          have := Int.le_of_dvd (by omega) h10
          omega
        · rw [h9] at h3
          have h10 : (r : Int) ∣ 3 := h3
          have := Int.le_of_dvd (by omega) h10
          omega
    exact hrP ▸ hr
theorem unit_Q {g : Grp} (h : validG g = true) {a : Int} (ha : a % g.Q ≠ 0) : U g.Q a := by
  have hQ := prime_Q h
  have q0 := (gv_of h).q0
  have hN : ((g.Q.toNat : Nat) : Int) = g.Q := Int.toNat_of_nonneg (by omega)
  have r0 := Int.emod_nonneg a (show g.Q ≠ 0 by omega)
  have r1 := Int.emod_lt_of_pos a (show 0 < g.Q by omega)
  have h2 : g.Q.toNat % 2 = 1 := by
    rcases Nat.mod_two_eq_zero_or_one g.Q.toNat with h2 | h2
    · rcases hQ.2 2 (Nat.dvd_of_mod_eq_zero h2) with h3 | h3 <;> omega
    · exact h2
  have hd : ¬ g.Q.toNat ∣ (a % g.Q).toNat := fun hd => by have := Nat.le_of_dvd (by omega) hd; omega
  have h3 := gauss (h := g.Q.toNat / 2) hQ (by omega) hd
  have h4 := h3.mul h3
  rw [← Int.pow_add, ← Int.pow_add, neg_one_pow, if_pos (by omega)] at h4
  have eA : (((a % g.Q).toNat : Nat) : Int) = a % g.Q := Int.toNat_of_nonneg r0
  rw [eA] at h4
  have h5 : g.Q ∣ (a % g.Q) ^ (g.Q.toNat / 2 + g.Q.toNat / 2) - 1 := by
    have : ((g.Q.toNat : Nat) : Int) ∣ (a % g.Q) ^ (g.Q.toNat / 2 + g.Q.toNat / 2) - 1 := h4
    rwa [hN] at this
  have hU : U g.Q (a % g.Q) := by
    refine ⟨(a % g.Q) ^ (g.Q.toNat / 2 + g.Q.toNat / 2 - 1), ?_⟩
    rw [← Int.pow_succ, show (g.Q.toNat / 2 + g.Q.toNat / 2 - 1).succ = g.Q.toNat / 2 + g.Q.toNat / 2 by omega]
    exact h5
  refine hU.cong ?_
  exact ⟨a / g.Q, by have := Int.emod_add_mul_ediv a g.Q; omega⟩
end FdPr
namespace GrPr
open FdSpec FdPoly GrLaw
section
variable {g : Grp} (hv : validG g = true)
include hv
theorem nP : ((g.P.toNat : Nat) : Int) = g.P := Int.toNat_of_nonneg (by have := (gv_of hv).q0; have := (gv_of hv).p; omega)
theorem cg_E {a b : Int} : Cg g.P a b ↔ Mr.E g.P.toNat a b := by unfold Cg Mr.E; rw [nP hv]
theorem ord {x : Int} (hx : El g x) (h1 : ¬ Cg g.P x 1) {k : Nat} (hk : Cg g.P (x ^ k) 1) : g.Q.toNat ∣ k := by
  rw [cg_E hv] at hk h1
  have h2 : Mr.E g.P.toNat (x ^ g.Q.toNat) 1 := (cg_E hv).mp hx
  have h3 := Mr.gcd_pow _ _ h2 hk
  rcases (FdPr.prime_Q hv).2 (Nat.gcd g.Q.toNat k) (Nat.gcd_dvd_left _ _) with h4 | h4
  · rw [h4, Int.pow_succ, Int.pow_zero, Int.one_mul] at h3
    exact absurd h3 h1
  · exact h4 ▸ Nat.gcd_dvd_right g.Q.toNat k
theorem gen_ne : ¬ Cg g.P g.G 1 := by
  intro h
  have hg := gv_of hv
  have := hg.g0
  have := hg.g1
  have := Int.le_of_dvd (by omega) h
  omega
theorem Ex_inj {x : Int} (hx : El g x) (h1 : ¬ Cg g.P x 1) {a b : Int} (h : Cg g.P (Ex g x a) (Ex g x b)) : a % g.Q = b % g.Q := by
  have hg := gv_of hv
  have q0 := hg.q0
  have h2 : Cg g.P (Ex g x (a - b)) 1 := by
    have h3 := Ex_add hg hx (a - b) b
    rw [Int.sub_add_cancel] at h3
    have h4 : Cg g.P (1 * Ex g x b) (Ex g x (a - b) * Ex g x b) := by rw [Int.one_mul]; exact h.symm.trans h3
    exact (Cg.cancel ((hx.ex b).unit hg) h4).symm
  have h3 := ord hv hx h1 h2
  have r0 := Int.emod_nonneg (a - b) (show g.Q ≠ 0 by omega)
  have r1 := Int.emod_lt_of_pos (a - b) (show 0 < g.Q by omega)
  have h4 : ((a - b) % g.Q).toNat = 0 := by
    apply Classical.byContradiction
    intro hc
    have := Nat.le_of_dvd (by omega) h3
    omega
  have h5 : (a - b) % g.Q = 0 := by omega
  exact Int.emod_eq_emod_iff_emod_sub_eq_zero.mpr h5
theorem log {x : Int} (hx : El g x) : ∃ k : Int, Cg g.P x (Ex g g.G k) := by
  have hg := gv_of hv
  have q0 := hg.q0
  apply Classical.byContradiction
  intro hc
  have hl : ∀ k : Nat, ¬ Mr.E g.P.toNat x (g.G ^ k) := by
    intro k h
    apply hc
    refine ⟨k, ?_⟩
    have h1 : Cg g.P x (g.G ^ k) := (cg_E hv).mpr h
    refine h1.trans ?_
    unfold Ex
    refine pow_same (El.gen hg) (nat_mod (by omega) ?_)
    rw [toNat_mod (by omega), Int.emod_emod_of_dvd _ (Int.dvd_refl _)]
  have hp : List.Pairwise (fun a b : Nat => ¬ Mr.E g.P.toNat (g.G ^ a) (g.G ^ b)) (List.range g.Q.toNat) := by
    refine List.Pairwise.imp_of_mem ?_ List.pairwise_lt_range
    intro a b ha hb hab h
    have ha := List.mem_range.mp ha
    have hb := List.mem_range.mp hb
    have h1 : Cg g.P (Ex g g.G a) (Ex g g.G b) := by
      unfold Ex
      rw [Int.emod_eq_of_lt (by omega) (by omega), Int.emod_eq_of_lt (by omega) (by omega)]
      exact (cg_E hv).mpr h
    have h2 := Ex_inj hv (El.gen hg) (gen_ne hv) h1
    rw [Int.emod_eq_of_lt (by omega) (by omega), Int.emod_eq_of_lt (by omega) (by omega)] at h2
    omega
  have h1 : Mr.Apart g.P.toNat (x :: (List.range g.Q.toNat).map fun k => g.G ^ k) := by
    refine List.pairwise_cons.mpr ⟨fun y hy => ?_, List.pairwise_map.mpr hp⟩
    obtain ⟨k, _, rfl⟩ := List.mem_map.mp hy
    exact hl k
  have h2 := Mr.roots_pow (FdPr.prime_P hv) (k := g.Q.toNat) (by omega) _ h1 (by
    intro y hy
    rcases List.mem_cons.mp hy with rfl | hy
    · exact (cg_E hv).mp hx
    · obtain ⟨k, _, rfl⟩ := List.mem_map.mp hy
      exact (cg_E hv).mp ((El.gen hg).pow k))
  rw [List.length_cons, List.length_map, List.length_range] at h2
  omega
theorem inv_Q {a : Int} (ha : a % g.Q ≠ 0) : g.Q ∣ powM g.Q a (-1) * a - 1 ∧ 0 ≤ powM g.Q a (-1) ∧ powM g.Q a (-1) < g.Q := by
  have hg := gv_of hv
  obtain ⟨x, e, hx, h0, h1⟩ := invM_some hg.okQ (FdPr.unit_Q hv ha)
  have e1 : powM g.Q a (-1) = x := by
    unfold powM
    rw [if_pos hg.okQ, if_neg (by omega), e]
    show pw g.Q x (-(-1 : Int)).toNat = _
    have : (-(-1 : Int)).toNat = 1 := by decide
    rw [this]
    unfold pw
    rw [Int.pow_succ, Int.pow_zero, Int.one_mul, Int.emod_eq_of_lt h0 h1]
  rw [e1]
  exact ⟨hx, h0, h1⟩
theorem zero_Q {a b : Int} (h : (a * b) % g.Q = 0) : a % g.Q = 0 ∨ b % g.Q = 0 := by
  by_cases ha : a % g.Q = 0
  · exact Or.inl ha
  · exact Or.inr (Int.emod_eq_zero_of_dvd ((FdPr.unit_Q hv ha).cancel (Int.dvd_of_emod_eq_zero h)))
end
end GrPr
namespace TpA
open FdSpec FdPoly GrLaw GrPr TkSpec
def dot : List Int → List Int → Int
  | β :: bs, e :: es => β * e + dot bs es
  | _, _ => 0
theorem mod_of_dvd {q a b : Int} (h : q ∣ a - b) : a % q = b % q := Int.emod_eq_emod_iff_emod_sub_eq_zero.mpr (Int.emod_eq_zero_of_dvd h)
theorem dvd_of_mod {q a b : Int} (h : a % q = b % q) : q ∣ a - b := Int.dvd_of_emod_eq_zero (Int.emod_eq_emod_iff_emod_sub_eq_zero.mp h)
section
variable {g : Grp} (hv : validG g = true)
include hv
theorem prodG_log {bases bs es : List Int} (h : ∀ es : List Int, Cg g.P (PX g (bases.zip es)) (Ex g g.G (dot bs es))) (hl : bases.length = es.length) : (prodG g bases es).2 = true ∧ Cg g.P (prodG g bases es).1 (Ex g g.G (dot bs es)) ∧ 0 ≤ (prodG g bases es).1 ∧ (prodG g bases es).1 < g.P := by
  have hg := gv_of hv
  have hP := hg.okP.1
  unfold prodG
  rw [if_pos ⟨hg.okP, hg.okQ, hl⟩]
  have h1 : 0 ≤ (1 % g.P) ∧ 1 % g.P < g.P := ⟨Int.emod_nonneg _ (by omega), Int.emod_lt_of_pos _ (by omega)⟩
  refine ⟨rfl, ?_, prodL_range hg _ _ h1⟩
  have h2 := prodL_cg hg (bases.zip es) (1 % g.P)
  have h3 := (Cg.mod g.P 1).mul (Cg.refl g.P (PX g (bases.zip es)))
  rw [Int.one_mul] at h3
  exact h2.trans (h3.trans (h es))
theorem Ex_eq {a b : Int} (h : g.Q ∣ a - b) : Ex g g.G a = Ex g g.G b := Ex_cong (mod_of_dvd h)
theorem Ex_dvd {a b : Int} (h : Cg g.P (Ex g g.G a) (Ex g g.G b)) : g.Q ∣ a - b := dvd_of_mod (Ex_inj hv (El.gen (gv_of hv)) (gen_ne hv) h)
theorem pow_log {x k a : Int} (hx : Cg g.P x (Ex g g.G a)) : Cg g.P (powerG g x k) (Ex g g.G (a * k)) := by
  have hg := gv_of hv
  exact (powerG_cg hg x k).trans ((Ex_cg hx k).trans (Ex_mul hg (El.gen hg) a k).symm)
end
theorem valid_facts {s : Stp} (h : validS s = true) : validG s.g = true ∧ (∀ b ∈ s.bases, El s.g b) ∧ 2 ≤ s.bases.length := by
  unfold validS at h
  simp only [Bool.and_eq_true, decide_eq_true_eq] at h
  obtain ⟨⟨⟨⟨h1, h2⟩, h3⟩, h4⟩, h5⟩ := h
  refine ⟨h1, fun b hb => ?_, h2⟩
  have := List.all_eq_true.mp h4 b hb
  unfold otherM at this
  rw [Bool.and_eq_true] at this
  exact (El.of_elem (gv_of h1) this.2).1
theorem overQ_dvd {s : Stp} (hv : validG s.g = true) {a b : Int} (hb : b % s.g.Q ≠ 0) : s.g.Q ∣ overQ s a b * b - a := by
  obtain ⟨⟨k, hk⟩, _⟩ := inv_Q hv hb
  obtain ⟨l, hl⟩ := mulM_dvd (gv_of hv).okQ (a := a) (b := powM s.g.Q b (-1))
  have e : overQ s a b = mulM s.g.Q a (powM s.g.Q b (-1)) := rfl
  rw [e]
  exact ⟨l * b + a * k, by grind⟩
theorem overQ_range {s : Stp} (hv : validG s.g = true) (a b : Int) : 0 ≤ overQ s a b ∧ overQ s a b < s.g.Q := mulM_range _ _ _ (gv_of hv).okQ
end TpA
namespace TpA
open FdSpec FdPoly GrLaw GrPr TkSpec
theorem range_eq {q a b : Int} (h : q ∣ a - b) (ha : 0 ≤ a ∧ a < q) (hb : 0 ≤ b ∧ b < q) : a = b := by
  have := mod_of_dvd h
  rwa [Int.emod_eq_of_lt ha.1 ha.2, Int.emod_eq_of_lt hb.1 hb.2] at this
end TpA
namespace TpA
open FdSpec FdPoly GrLaw GrPr TkSpec
theorem dot_nil_right (bs : List Int) : dot bs [] = 0 := by cases bs <;> rfl
theorem foldl_dot {q : Int} (hq : okN q) : ∀ (es bs : List Int) (o : Int), q ∣ (es.zip bs).foldl (fun o p => addM q o (mulM q p.1 p.2)) o - (o + dot bs es)
  | [], bs, o => by simp [dot_nil_right]
  | e :: es, [], o => by simp [dot]
  | e :: es, b :: bs, o => by
    rw [List.zip_cons_cons, List.foldl_cons, dot]
    obtain ⟨k, hk⟩ := foldl_dot hq es bs (addM q o (mulM q e b))
    obtain ⟨l, hl⟩ := addM_dvd hq (a := o) (b := mulM q e b)
    obtain ⟨n, hn⟩ := mulM_dvd hq (a := e) (b := b)
    exact ⟨k + l + n, by grind⟩
theorem foldl_range {q : Int} (hq : okN q) : ∀ (l : List (Int × Int)) (o : Int), (0 ≤ o ∧ o < q) → 0 ≤ l.foldl (fun o p => addM q o (mulM q p.1 p.2)) o ∧ l.foldl (fun o p => addM q o (mulM q p.1 p.2)) o < q
  | [], o, h => h
  | p :: l, o, _ => by rw [List.foldl_cons]; exact foldl_range hq l _ (addM_range _ _ _ hq)
theorem logM_eq (s : Stp) (m : Mir) (attrs : List Int) : logM s m attrs = ((expsM attrs).zip m.bases).foldl (fun o p => addM s.g.Q o (mulM s.g.Q p.1 p.2)) 0 := rfl
theorem makeG_valid {q : Int} (h : (makeG q).2 = true) : validG (makeG q).1 = true ∧ (makeG q).1.Q = q := by
  unfold makeG at h ⊢
  split at h
  · cases h
  · rename_i h0
    rw [if_neg h0]
    split at h
    · rename_i h1
      rw [if_pos h1]; exact ⟨h1, rfl⟩
    · cases h
structure Md (g : Grp) (m : Mir) (s : Stp) : Prop where
  eg : s.g = g
  v : validG s.g = true
  vs : validS s = true
  len : s.bases.length = m.bases.length
  b2 : 2 ≤ m.bases.length
  log : ∀ es : List Int, Cg s.g.P (PX s.g (s.bases.zip es)) (Ex s.g s.g.G (dot m.bases es))
  rng : ∀ b ∈ m.bases, 1 ≤ b ∧ b < s.g.Q
theorem PX_map {g : Grp} (hv : validG g = true) : ∀ (ms es : List Int), Cg g.P (PX g ((ms.map (powerG g g.G)).zip es)) (Ex g g.G (dot ms es))
  | [], es => by simp [PX, dot, Ex_zero]; exact Cg.refl _ _
  | m :: ms, [] => by simp [PX, dot, Ex_zero]; exact Cg.refl _ _
  | m :: ms, e :: es => by
    have hg := gv_of hv
    rw [List.map_cons, List.zip_cons_cons, PX, dot]
    have h3 : Cg g.P (Ex g (powerG g g.G m) e) (Ex g g.G (m * e)) := (Ex_cg (powerG_cg hg g.G m) e).trans (Ex_mul hg (El.gen hg) m e).symm
    exact (h3.mul (PX_map hv ms es)).trans (Ex_add hg (El.gen hg) _ _).symm
theorem powG_el {g : Grp} (hv : validG g = true) (k : Int) : El g (powerG g g.G k) := ((El.gen (gv_of hv)).ex k).cg (powerG_cg (gv_of hv) _ _)
theorem el_range {g : Grp} (hv : validG g = true) {x : Int} (hx : El g x) (h0 : 0 ≤ x) (h1 : x < g.P) : 1 ≤ x := by
  have hg := gv_of hv
  have q0 := hg.q0
  apply Classical.byContradiction
  intro hc
  have e : x = 0 := by omega
  have h2 : Cg g.P (x ^ g.Q.toNat) 1 := hx
  rw [e, Int.zero_pow (by omega)] at h2
  have h3 : g.P ∣ 0 - 1 := h2
  have h4 : g.P ∣ 1 := by obtain ⟨k, hk⟩ := h3; exact ⟨-k, by grind⟩
  have := Int.le_of_dvd (by omega) h4
  have := hg.p
  omega
theorem el_elem {g : Grp} (hv : validG g = true) {x : Int} (hx : El g x) (h0 : 0 ≤ x) (h1 : x < g.P) : elemG g x = true := by
  have hg := gv_of hv
  unfold elemG
  have h2 := el_range hv hx h0 h1
  have h3 : pw g.P x g.Q.toNat = 1 := by
    have h4 := Cg.emod (show Cg g.P (x ^ g.Q.toNat) 1 from hx)
    rw [Int.emod_eq_of_lt (a := 1) (by omega) (by have := hg.q0; have := hg.p; omega)] at h4
    exact h4
  simp [h2, h1, hv, h3]
theorem powG_elem {g : Grp} (hv : validG g = true) (k : Int) : elemG g (powerG g g.G k) = true := by
  have := powerG_range (gv_of hv) g.G k
  exact el_elem hv (powG_el hv k) this.1 this.2
theorem powG_one {g : Grp} (hv : validG g = true) (k : Int) : powerG g g.G k = 1 ↔ k % g.Q = 0 := by
  have hg := gv_of hv
  have hc := powerG_cg hg g.G k
  constructor
  · intro h
    rw [h] at hc
    have h2 : Cg g.P (Ex g g.G k) (Ex g g.G 0) := by rw [Ex_zero]; exact hc.symm
    have := mod_of_dvd (Ex_dvd hv h2)
    simpa using this
  · intro h
    have e : Ex g g.G k = Ex g g.G 0 := Ex_cong (by simpa using h)
    rw [powerG_eq hg, e, Ex_zero, Int.emod_eq_of_lt (by omega) (by have := hg.q0; have := hg.p; omega)]
theorem made_md {g : Grp} {m : Mir} (h : (makeM g m).2 = true) : Md g m (makeM g m).1 := by
  unfold makeM at h ⊢
  split at h
  · rename_i h0
    rw [if_pos h0]
    simp only [Bool.and_eq_true, decide_eq_true_eq, Bool.not_eq_true'] at h0
    obtain ⟨⟨⟨⟨hv, h2⟩, h7⟩, hb⟩, hbl⟩ := h0
    have hr : ∀ b ∈ m.bases, 1 ≤ b ∧ b < g.Q := by
      intro b hm
      have := List.any_eq_false.mp hb b hm
      unfold badN at this
      simp at this
      omega
    have hbr : 1 ≤ m.blind ∧ m.blind < g.Q := by unfold badN at hbl; simp at hbl; omega
    have ho : ∀ b, (1 ≤ b ∧ b < g.Q) → otherM g (powerG g g.G b) = true := by
      intro b hb
      unfold otherM
      have h3 : powerG g g.G b ≠ 1 := fun h3 => by
        have := (powG_one hv b).mp h3
        rw [Int.emod_eq_of_lt (by omega) hb.2] at this
        omega
      simp [h3, powG_elem hv b]
    refine ⟨rfl, hv, ?_, by simp, h2, fun es => PX_map hv m.bases es, hr⟩
    unfold validS
    have h3 : (m.bases.map (powerG g g.G)).all (otherM g) = true := List.all_eq_true.mpr fun x hx => by
      obtain ⟨b, hb, rfl⟩ := List.mem_map.mp hx
      exact ho b (hr b hb)
    simp [hv, h2, h7, h3, ho m.blind hbr]
  · cases h
section
variable {g : Grp} {m : Mir} {s : Stp} (h : Md g m s)
include h
theorem Md.log_dvd (attrs : List Int) : s.g.Q ∣ logM s m attrs - dot m.bases (expsM attrs) := by
  have := foldl_dot (gv_of h.v).okQ (expsM attrs) m.bases 0
  rwa [Int.zero_add] at this
theorem Md.log_range (attrs : List Int) : 0 ≤ logM s m attrs ∧ logM s m attrs < s.g.Q := by
  rw [logM_eq]
  exact foldl_range (gv_of h.v).okQ _ 0 ⟨by omega, by have := (gv_of h.v).q0; omega⟩
def fineA (s : Stp) (attrs : List Int) : Bool := decide (attrs.length + 1 = s.bases.length) && numsM s 0 attrs && !decide (attrs.headD 0 = 0)
theorem Md.marks (attrs : List Int) : (fineA s attrs = false → markM s attrs = (0, false)) ∧ (fineA s attrs = true → markM s attrs = (powerG s.g s.g.G (logM s m attrs), true)) := by
  have e : (validS s && decide (attrs.length + 1 = s.bases.length) && numsM s 0 attrs && !decide (attrs.headD 0 = 0)) = fineA s attrs := by unfold fineA; rw [h.vs]; simp [Bool.and_assoc]
  constructor
  · intro hf
    unfold markM; rw [e, hf]; rfl
  · intro hf
    unfold markM
    rw [e, hf, if_pos rfl]
    have hl : s.bases.length = (expsM attrs).length := by unfold fineA at hf; simp at hf; show _ = attrs.length + 1; omega
    obtain ⟨_, h1, h2, h3⟩ := prodG_log h.v h.log hl
    have h4 := powerG_range (gv_of h.v) s.g.G (logM s m attrs)
    have h5 : (prodG s.g s.bases (expsM attrs)).1 = powerG s.g s.g.G (logM s m attrs) := by
      refine Cg.eq (P := s.g.P) ?_ ⟨h2, h3⟩ h4
      refine h1.trans (Cg.trans ?_ (powerG_cg (gv_of h.v) _ _).symm)
      rw [Ex_eq h.v (a := logM s m attrs) (h.log_dvd attrs)]
      exact Cg.refl _ _
    rw [h5]
theorem Md.usable (attrs : List Int) : (usableM s attrs).2 = (fineA s attrs && !decide (logM s m attrs = 0)) := by
  unfold usableM
  cases hf : fineA s attrs with
  | false => rw [(h.marks attrs).1 hf]; rfl
  | true =>
    rw [(h.marks attrs).2 hf]
    have h1 := h.log_range attrs
    have h2 : powerG s.g s.g.G (logM s m attrs) = 1 ↔ logM s m attrs = 0 := by
      rw [powG_one h.v, Int.emod_eq_of_lt h1.1 h1.2]
    show (true && !decide (powerG s.g s.g.G (logM s m attrs) = 1)) = _
    rw [decide_eq_decide.mpr h2]
end
end TpA
namespace TpA
open FdSpec FdPoly GrLaw GrPr TkSpec
theorem dvd_iff_eq {q a b : Int} (ha : 0 ≤ a ∧ a < q) (hb : 0 ≤ b ∧ b < q) : q ∣ a - b ↔ a = b := ⟨fun h => range_eq h ha hb, fun h => ⟨0, by omega⟩⟩
theorem eq_iff {g : Grp} (hv : validG g = true) {x y a b : Int} (hx : Cg g.P x (Ex g g.G a)) (hy : Cg g.P y (Ex g g.G b)) (rx : 0 ≤ x ∧ x < g.P) (ry : 0 ≤ y ∧ y < g.P) : x = y ↔ g.Q ∣ a - b := by
  constructor
  · intro h
    subst h
    exact Ex_dvd hv (hx.symm.trans hy)
  · intro h
    refine Cg.eq (P := g.P) ?_ rx ry
    rw [Ex_eq hv h] at hx
    exact hx.trans hy.symm
theorem signed_iff {s : Stp} (hv : validG s.g = true) {key m c r : Int} {o : Off} {x μ z a b : Int} (hk : Cg s.g.P key (Ex s.g s.g.G x)) (hm : Cg s.g.P m (Ex s.g s.g.G μ)) (hz : Cg s.g.P o.z (Ex s.g s.g.G z)) (ha : Cg s.g.P o.a (Ex s.g s.g.G a)) (hb : Cg s.g.P o.b (Ex s.g s.g.G b)) :
    signedM s key m c r o = true ↔ s.g.Q ∣ r - (x * c + a) ∧ s.g.Q ∣ μ * r - (z * c + b) := by
  have hg := gv_of hv
  unfold signedM
  rw [Bool.and_eq_true, decide_eq_true_eq, decide_eq_true_eq]
  have t1 : ∀ k y : Int, timesM s k [y] = timesG s.g k y := fun _ _ => rfl
  rw [t1, t1]
  show (powerG s.g s.g.G r = timesG s.g (powerG s.g key c) o.a ∧ _) ↔ _
  rw [eq_iff hv (powerG_cg hg s.g.G r) ((timesG_cg hg _ _).trans (((pow_log hv hk).mul ha).trans (Ex_add hg (El.gen hg) _ _).symm)) (powerG_range hg _ _) (timesG_range hg _ _)]
  rw [eq_iff hv (pow_log hv hm) ((timesG_cg hg _ _).trans (((pow_log hv hz).mul hb).trans (Ex_add hg (El.gen hg) _ _).symm)) (powerG_range hg _ _) (timesG_range hg _ _)]
theorem public_log {g : Grp} {m : Mir} {s : Stp} (h : Md g m s) {x : Int} (hx : 1 ≤ x ∧ x < s.g.Q) : publicM s x = powerG s.g s.g.G x ∧ keyM s (publicM s x) = true := by
  have e : publicM s x = powerG s.g s.g.G x := by
    unfold publicM genM
    rw [if_pos]
    have hn : numsM s 1 [x] = true := by unfold numsM; simp [hx.1, hx.2]
    rw [h.vs, hn]; rfl
  refine ⟨e, ?_⟩
  rw [e]
  unfold keyM elementsM
  have h1 : powerG s.g s.g.G x ≠ 1 := fun h1 => by
    have := (powG_one h.v x).mp h1
    rw [Int.emod_eq_of_lt (by omega) hx.2] at this
    omega
  simp [h1, powG_elem h.v x]
end TpA
namespace TpA
open FdSpec FdPoly GrLaw GrPr TkSpec
theorem nums_one {s : Stp} {m x : Int} : numsM s m [x] = true ↔ m ≤ x ∧ x < s.g.Q := by unfold numsM; simp
theorem elem_log {g : Grp} (hv : validG g = true) {x a : Int} (hx : Cg g.P x (Ex g g.G a)) (r : 0 ≤ x ∧ x < g.P) : elemG g x = true :=
  el_elem hv (((El.gen (gv_of hv)).ex a).cg hx) r.1 r.2
theorem one_iff {g : Grp} (hv : validG g = true) {x a : Int} (hx : Cg g.P x (Ex g g.G a)) (r : 0 ≤ x ∧ x < g.P) : x = 1 ↔ a % g.Q = 0 := by
  have hg := gv_of hv
  have h1 : Cg g.P 1 (Ex g g.G 0) := by rw [Ex_zero]; exact Cg.refl _ _
  rw [eq_iff hv hx h1 r ⟨by omega, by have := hg.q0; have := hg.p; omega⟩, Int.sub_zero]
  exact ⟨Int.emod_eq_zero_of_dvd, Int.dvd_of_emod_eq_zero⟩
theorem mul_ne {g : Grp} (hv : validG g = true) {a b : Int} (ha : a % g.Q ≠ 0) (hb : b % g.Q ≠ 0) : (a * b) % g.Q ≠ 0 := fun h => (zero_Q hv h).elim ha hb
theorem small_ne {q a : Int} (h : 1 ≤ a ∧ a < q) : a % q ≠ 0 := by rw [Int.emod_eq_of_lt (by omega) h.2]; omega
theorem timesM_one (s : Stp) (a b : Int) : timesM s a [b] = timesG s.g a b := rfl
theorem times_log {g : Grp} (hv : validG g = true) {x y a b : Int} (hx : Cg g.P x (Ex g g.G a)) (hy : Cg g.P y (Ex g g.G b)) : Cg g.P (timesG g x y) (Ex g g.G (a + b)) :=
  (timesG_cg (gv_of hv) x y).trans ((hx.mul hy).trans (Ex_add (gv_of hv) (El.gen (gv_of hv)) a b).symm)
theorem log_mod {g : Grp} (hv : validG g = true) {x a b : Int} (hx : Cg g.P x (Ex g g.G a)) (h : g.Q ∣ a - b) : Cg g.P x (Ex g g.G b) := by rwa [Ex_eq hv h] at hx
structure Hon (g : Grp) (m : Mir) (s : Stp) (attrs : List Int) (b : Bld) (x w : Int) : Prop where
  md : Md g m s
  us : (usableM s attrs).2 = true
  bl : blindsM s b = true
  hx : 1 ≤ x ∧ x < s.g.Q
  hw : 0 ≤ w ∧ w < s.g.Q
section
variable {g : Grp} {m : Mir} {s : Stp} {attrs : List Int} {b : Bld} {x w : Int}
theorem Md.us_facts (h : Md g m s) (hu : (usableM s attrs).2 = true) : fineA s attrs = true ∧ logM s m attrs % s.g.Q ≠ 0 ∧ (usableM s attrs).1 = powerG s.g s.g.G (logM s m attrs) := by
  have h1 := h.usable attrs
  rw [hu] at h1
  have h2 := Bool.and_eq_true _ _ |>.mp h1.symm
  have h3 := h.log_range attrs
  refine ⟨h2.1, ?_, ?_⟩
  · rw [Int.emod_eq_of_lt h3.1 h3.2]
    simpa using h2.2
  · unfold usableM
    rw [(h.marks attrs).2 h2.1]
theorem blinds_iff : blindsM s b = true ↔ (1 ≤ b.s ∧ b.s < s.g.Q) ∧ (1 ≤ b.u ∧ b.u < s.g.Q) ∧ (0 ≤ b.v ∧ b.v < s.g.Q) ∧ b.ys.length = s.bases.length ∧ numsM s 0 b.ys = true := by
  unfold blindsM numsM
  simp
  constructor
  · rintro ⟨⟨⟨⟨h1, h2⟩, h3⟩, h4⟩, h5⟩; exact ⟨h1, h2, h3, h4, h5⟩
  · rintro ⟨h1, h2, h3, h4, h5⟩; exact ⟨⟨⟨⟨h1, h2⟩, h3⟩, h4⟩, h5⟩
variable (h : Hon g m s attrs b x w)
include h
theorem Hon.offer : proposeM s x attrs w = (⟨powerG s.g (usableM s attrs).1 x, powerG s.g s.g.G w, powerG s.g (usableM s attrs).1 w⟩, 0) := by
  unfold proposeM genM
  rw [h.us, nums_one.mpr h.hx, nums_one.mpr h.hw]; rfl
theorem Hon.ask_logs {T : Tkt} (hT : T = askTkt s attrs (proposeM s x attrs w).1 b) :
    let A := logM s m attrs
    Cg s.g.P T.mark (Ex s.g s.g.G (A * b.s)) ∧ Cg s.g.P T.first (Ex s.g s.g.G (dot m.bases b.ys)) ∧ Cg s.g.P T.z (Ex s.g s.g.G (A * x * b.s)) ∧ Cg s.g.P T.a (Ex s.g s.g.G (w * b.u + b.v)) ∧ Cg s.g.P T.b (Ex s.g s.g.G (A * w * (b.s * b.u) + A * b.s * b.v)) ∧
    (0 ≤ T.mark ∧ T.mark < s.g.P) ∧ (0 ≤ T.first ∧ T.first < s.g.P) ∧ (0 ≤ T.z ∧ T.z < s.g.P) ∧ (0 ≤ T.a ∧ T.a < s.g.P) ∧ (0 ≤ T.b ∧ T.b < s.g.P) := by
  have hv := h.md.v
  have hg := gv_of hv
  obtain ⟨_, _, eM⟩ := h.md.us_facts h.us
  have hM : Cg s.g.P (usableM s attrs).1 (Ex s.g s.g.G (logM s m attrs)) := by rw [eM]; exact powerG_cg hg _ _
  rw [h.offer] at hT
  subst hT
  obtain ⟨_, b2, _, b4, _⟩ := blinds_iff.mp h.bl
  have hp := prodG_log hv h.md.log (es := b.ys) b4.symm
  have hmark := pow_log hv (k := b.s) hM
  unfold askTkt
  simp only [timesM_one]
  refine ⟨hmark, hp.2.1, pow_log hv (pow_log hv hM), times_log hv (pow_log hv (powerG_cg hg s.g.G w)) (powerG_cg hg s.g.G b.v), ?_, powerG_range hg _ _, hp.2.2, powerG_range hg _ _, timesG_range hg _ _, timesG_range hg _ _⟩
  refine log_mod hv (times_log hv (pow_log hv (pow_log hv hM)) (pow_log hv hmark)) ?_
  obtain ⟨k, hk⟩ := mulM_dvd hg.okQ (a := b.s) (b := b.u)
  have e : mulQ s b.s [b.u] = mulM s.g.Q b.s b.u := rfl
  rw [e]
  exact ⟨logM s m attrs * w * k, by grind⟩
theorem Hon.fine : askFine s (publicM s x) attrs (proposeM s x attrs w).1 b = true := by
  have hv := h.md.v
  have hg := gv_of hv
  obtain ⟨_, hA, eM⟩ := h.md.us_facts h.us
  have hM : Cg s.g.P (usableM s attrs).1 (Ex s.g s.g.G (logM s m attrs)) := by rw [eM]; exact powerG_cg hg _ _
  unfold askFine
  rw [h.us, (public_log h.md h.hx).2, h.offer, h.bl]
  have h1 : elemG s.g (powerG s.g (usableM s attrs).1 x) = true := elem_log hv (pow_log hv hM) (powerG_range hg _ _)
  have h2 : elemG s.g (powerG s.g (usableM s attrs).1 w) = true := elem_log hv (pow_log hv hM) (powerG_range hg _ _)
  have h3 : powerG s.g (usableM s attrs).1 x ≠ 1 := fun h3 => mul_ne hv hA (small_ne h.hx) ((one_iff hv (pow_log hv hM) (powerG_range hg _ _)).mp h3)
  unfold elementsM
  simp [h1, h2, h3, powG_elem hv w]
theorem Hon.err : askErr s (publicM s x) attrs (proposeM s x attrs w).1 b = if innerQ s (askTkt s attrs (proposeM s x attrs w).1 b) = 0 then 7 else 0 := by
  unfold askErr; rw [if_pos h.fine]
theorem Hon.chal : s.g.Q ∣ askC s attrs (proposeM s x attrs w).1 b * b.u - innerQ s (askTkt s attrs (proposeM s x attrs w).1 b) ∧ 0 ≤ askC s attrs (proposeM s x attrs w).1 b ∧ askC s attrs (proposeM s x attrs w).1 b < s.g.Q := by
  obtain ⟨_, b2, _⟩ := blinds_iff.mp h.bl
  exact ⟨overQ_dvd h.md.v (small_ne b2), overQ_range h.md.v _ _⟩
theorem Hon.grant {c : Int} (hc : 0 ≤ c ∧ c < s.g.Q) : s.g.Q ∣ grantM s x w c - (c * x + w) ∧ 0 ≤ grantM s x w c ∧ grantM s x w c < s.g.Q := by
  have hg := gv_of h.md.v
  have e : grantM s x w c = addM s.g.Q (mulM s.g.Q c x) w := by
    unfold grantM
    have : numsM s 0 [w, c] = true := by unfold numsM; simp [h.hw.1, h.hw.2, hc.1, hc.2]
    rw [h.md.vs, nums_one.mpr h.hx, this]; rfl
  rw [e]
  obtain ⟨k, hk⟩ := addM_dvd hg.okQ (a := mulM s.g.Q c x) (b := w)
  obtain ⟨l, hl⟩ := mulM_dvd hg.okQ (a := c) (b := x)
  exact ⟨⟨k + l, by grind⟩, addM_range _ _ _ hg.okQ⟩
theorem Hon.signed {r : Int} (hr : 0 ≤ r ∧ r < s.g.Q) {c : Int} (hc : 0 ≤ c ∧ c < s.g.Q) : signedM s (publicM s x) (usableM s attrs).1 c r (proposeM s x attrs w).1 = true ↔ r = grantM s x w c := by
  have hv := h.md.v
  have hg := gv_of hv
  obtain ⟨_, hA, eM⟩ := h.md.us_facts h.us
  have hM : Cg s.g.P (usableM s attrs).1 (Ex s.g s.g.G (logM s m attrs)) := by rw [eM]; exact powerG_cg hg _ _
  have hk : Cg s.g.P (publicM s x) (Ex s.g s.g.G x) := by rw [(public_log h.md h.hx).1]; exact powerG_cg hg _ _
  have e := h.offer
  rw [signed_iff (o := (proposeM s x attrs w).1) (z := logM s m attrs * x) (a := w) (b := logM s m attrs * w) hv hk hM (by rw [e]; exact pow_log hv hM) (by rw [e]; exact powerG_cg hg _ _) (by rw [e]; exact pow_log hv hM)]
  obtain ⟨⟨k, hk⟩, hgr⟩ := h.grant hc
  rw [← dvd_iff_eq hr hgr]
  constructor
  · rintro ⟨⟨l, hl⟩, _⟩
    exact ⟨l - k, by grind⟩
  · rintro ⟨l, hl⟩
    refine ⟨⟨l + k, by grind⟩, ⟨logM s m attrs * (l + k), ?_⟩⟩
    have e1 : r = c * x + w + s.g.Q * (l + k) := by grind
    rw [e1]; grind
end
end TpA
namespace TpA
open FdSpec FdPoly GrLaw GrPr TkSpec
section
variable {g : Grp} {m : Mir} {s : Stp} {attrs : List Int} {b : Bld} {x w : Int} (h : Hon g m s attrs b x w)
include h
theorem Hon.finish (hi : innerQ s (askTkt s attrs (proposeM s x attrs w).1 b) ≠ 0) (r : Int) : finishM s (publicM s x) attrs (proposeM s x attrs w).1 b r =
    if 0 ≤ r ∧ r < s.g.Q then (if r = grantM s x w (askC s attrs (proposeM s x attrs w).1 b) then ({ askTkt s attrs (proposeM s x attrs w).1 b with r := plusQ s (mulQ s r [b.u]) b.v }, 0) else (zT, 14)) else (zT, 1) := by
  unfold finishM
  rw [h.err, if_neg hi, if_neg (by simp)]
  by_cases hr : 0 ≤ r ∧ r < s.g.Q
  · rw [if_pos hr, nums_one.mpr hr]
    have h1 := h.signed hr h.chal.2
    by_cases e : r = grantM s x w (askC s attrs (proposeM s x attrs w).1 b)
    · rw [if_pos e, h1.mpr e]; rfl
    · rw [if_neg e]
      have : signedM s (publicM s x) (usableM s attrs).1 (askC s attrs (proposeM s x attrs w).1 b) r (proposeM s x attrs w).1 = false := by
        cases h2 : signedM s (publicM s x) (usableM s attrs).1 (askC s attrs (proposeM s x attrs w).1 b) r (proposeM s x attrs w).1 with
        | false => rfl
        | true => exact absurd (h1.mp h2) e
      rw [this]; rfl
  · rw [if_neg hr]
    have : numsM s 0 [r] = false := by
      cases h2 : numsM s 0 [r] with
      | false => rfl
      | true => exact absurd (nums_one.mp h2) hr
    rw [this]; rfl
theorem Hon.r_range (r : Int) : 0 ≤ plusQ s (mulQ s r [b.u]) b.v ∧ plusQ s (mulQ s r [b.u]) b.v < s.g.Q := addM_range _ _ _ (gv_of h.md.v).okQ
theorem Hon.formed {T : Tkt} (hT : T = askTkt s attrs (proposeM s x attrs w).1 b) {r : Int} (hr : 0 ≤ r ∧ r < s.g.Q) : formedM s { T with r := r } = true := by
  have hv := h.md.v
  obtain ⟨_, hA, _⟩ := h.md.us_facts h.us
  obtain ⟨b1, _⟩ := blinds_iff.mp h.bl
  obtain ⟨l1, l2, l3, l4, l5, r1, r2, r3, r4, r5⟩ := h.ask_logs hT
  have hm : T.mark ≠ 1 := fun h3 => mul_ne hv hA (small_ne b1) ((one_iff hv l1 r1).mp h3)
  unfold formedM elementsM
  rw [h.md.vs, nums_one.mpr hr]
  simp [hm, elem_log hv l1 r1, elem_log hv l2 r2, elem_log hv l3 r3, elem_log hv l4 r4, elem_log hv l5 r5]
theorem Hon.valid (hi : innerQ s (askTkt s attrs (proposeM s x attrs w).1 b) ≠ 0) {r : Int} (hr : r = grantM s x w (askC s attrs (proposeM s x attrs w).1 b)) :
    validM s (publicM s x) { askTkt s attrs (proposeM s x attrs w).1 b with r := plusQ s (mulQ s r [b.u]) b.v } = true := by
  have hv := h.md.v
  have hg := gv_of hv
  have hrr := h.r_range r
  have hf := h.formed rfl hrr
  obtain ⟨l1, _, l3, l4, l5, _⟩ := h.ask_logs rfl
  obtain ⟨⟨k1, h1⟩, hc⟩ := h.chal
  obtain ⟨⟨k2, h2⟩, _⟩ := h.grant hc
  have hk : Cg s.g.P (publicM s x) (Ex s.g s.g.G x) := by rw [(public_log h.md h.hx).1]; exact powerG_cg hg _ _
  unfold validM
  rw [hf, (public_log h.md h.hx).2]
  have ei : innerQ s { askTkt s attrs (proposeM s x attrs w).1 b with r := plusQ s (mulQ s r [b.u]) b.v } = innerQ s (askTkt s attrs (proposeM s x attrs w).1 b) := rfl
  rw [ei]
  generalize innerQ s (askTkt s attrs (proposeM s x attrs w).1 b) = c at *
  generalize askC s attrs (proposeM s x attrs w).1 b = n at *
  simp only [hi, decide_false, Bool.not_false, Bool.and_self, Bool.true_and]
  rw [signed_iff (o := ⟨(askTkt s attrs (proposeM s x attrs w).1 b).z, (askTkt s attrs (proposeM s x attrs w).1 b).a, (askTkt s attrs (proposeM s x attrs w).1 b).b⟩) hv hk l1 l3 l4 l5]
  rw [← hr] at h2
  obtain ⟨k3, h3⟩ := addM_dvd hg.okQ (a := mulM s.g.Q r b.u) (b := b.v)
  obtain ⟨k4, h4⟩ := mulM_dvd hg.okQ (a := r) (b := b.u)
  show s.g.Q ∣ addM s.g.Q (mulM s.g.Q r b.u) b.v - _ ∧ s.g.Q ∣ logM s m attrs * b.s * addM s.g.Q (mulM s.g.Q r b.u) b.v - _
  generalize addM s.g.Q (mulM s.g.Q r b.u) b.v = R at *
  generalize mulM s.g.Q r b.u = R1 at *
  have e1 : r = n * x + w + s.g.Q * k2 := by omega
  have e2 : R = r * b.u + b.v + s.g.Q * (k3 + k4) := by rw [Int.mul_add]; omega
  have e3 : n * b.u = c + s.g.Q * k1 := by omega
  have e4 : R = x * c + (w * b.u + b.v) + s.g.Q * (k3 + k4 + k2 * b.u + x * k1) := by
    have : r * b.u = x * (n * b.u) + w * b.u + s.g.Q * (k2 * b.u) := by rw [e1]; grind
    rw [e2, this, e3]; grind
  refine ⟨⟨k3 + k4 + k2 * b.u + x * k1, by rw [e4]; grind⟩, ⟨logM s m attrs * b.s * (k3 + k4 + k2 * b.u + x * k1), ?_⟩⟩
  rw [e4]; grind
theorem Hon.use_ok {d : Int} (hd : 1 ≤ d ∧ d < s.g.Q) : useM s attrs b d = (⟨d, ((expsM attrs).zip b.ys).map fun p => plusQ s p.2 (mulQ s d [b.s, p.1])⟩, true) := by
  unfold useM
  rw [h.us, h.bl, nums_one.mpr hd]; rfl
theorem Hon.use_no {d : Int} (hd : ¬ (1 ≤ d ∧ d < s.g.Q)) : (useM s attrs b d).2 = false := by
  unfold useM
  have : numsM s 1 [d] = false := by
    cases h2 : numsM s 1 [d] with
    | false => rfl
    | true => exact absurd (nums_one.mp h2) hd
  rw [this]; simp
theorem Hon.lens : (expsM attrs).length = s.bases.length ∧ b.ys.length = s.bases.length := by
  obtain ⟨hf, _⟩ := h.md.us_facts h.us
  obtain ⟨_, _, _, b4, _⟩ := blinds_iff.mp h.bl
  refine ⟨?_, b4⟩
  unfold fineA at hf
  simp at hf
  show attrs.length + 1 = _
  omega
theorem Hon.ans {d : Int} : s.g.Q ∣ dot m.bases (((expsM attrs).zip b.ys).map fun p => plusQ s p.2 (mulQ s d [b.s, p.1])) - (dot m.bases b.ys + d * b.s * dot m.bases (expsM attrs)) := by
  have hg := gv_of h.md.v
  obtain ⟨h1, h2⟩ := h.lens
  have hl := h.md.len
  have key : ∀ bs es ys : List Int, es.length = bs.length → ys.length = bs.length → s.g.Q ∣ dot bs ((es.zip ys).map fun p => plusQ s p.2 (mulQ s d [b.s, p.1])) - (dot bs ys + d * b.s * dot bs es) := by
    intro bs
    induction bs with
    | nil => intro es ys _ _; simp [dot]
    | cons β bs ih =>
      intro es ys he hy
      cases es with
      | nil => simp at he
      | cons e es =>
        cases ys with
        | nil => simp at hy
        | cons y ys =>
          obtain ⟨k, hk⟩ := ih es ys (by simpa using he) (by simpa using hy)
          rw [List.zip_cons_cons, List.map_cons, dot, dot, dot]
          have e0 : plusQ s y (mulQ s d [b.s, e]) = addM s.g.Q y (mulM s.g.Q (mulM s.g.Q d b.s) e) := rfl
          rw [e0]
          obtain ⟨k1, h1⟩ := addM_dvd hg.okQ (a := y) (b := mulM s.g.Q (mulM s.g.Q d b.s) e)
          obtain ⟨k2, h2⟩ := mulM_dvd hg.okQ (a := mulM s.g.Q d b.s) (b := e)
          obtain ⟨k3, h3⟩ := mulM_dvd hg.okQ (a := d) (b := b.s)
          generalize addM s.g.Q y (mulM s.g.Q (mulM s.g.Q d b.s) e) = Y at *
          generalize mulM s.g.Q (mulM s.g.Q d b.s) e = Z at *
          generalize mulM s.g.Q d b.s = W at *
          have e1 : W = d * b.s + s.g.Q * k3 := by grind
          have e2 : Z = d * b.s * e + s.g.Q * (k3 * e + k2) := by rw [e1] at h2; grind
          have e3 : Y = y + d * b.s * e + s.g.Q * (k1 + k3 * e + k2) := by grind
          refine ⟨β * (k1 + k3 * e + k2) + k, ?_⟩
          rw [e3]; grind
  exact key _ _ _ (by omega) (by omega)
theorem Hon.accept {d : Int} (hd : 1 ≤ d ∧ d < s.g.Q) {r : Int} (hr : 0 ≤ r ∧ r < s.g.Q) : acceptsM s { askTkt s attrs (proposeM s x attrs w).1 b with r := r } (useM s attrs b d).1 = true := by
  have hv := h.md.v
  have hg := gv_of hv
  obtain ⟨h1, h2⟩ := h.lens
  obtain ⟨l1, l2, _⟩ := h.ask_logs rfl
  rw [h.use_ok hd]
  unfold acceptsM
  have hl : (((expsM attrs).zip b.ys).map fun p => plusQ s p.2 (mulQ s d [b.s, p.1])).length = s.bases.length := by rw [List.length_map, List.length_zip]; omega
  have hn : numsM s 0 (((expsM attrs).zip b.ys).map fun p => plusQ s p.2 (mulQ s d [b.s, p.1])) = true := by
    refine List.all_eq_true.mpr fun y hy => ?_
    obtain ⟨p, _, rfl⟩ := List.mem_map.mp hy
    have := addM_range s.g.Q p.2 (mulQ s d [b.s, p.1]) hg.okQ
    simp; exact this
  have hnd := nums_one.mpr hd
  simp only [h.formed rfl hr, hnd, hl, hn, decide_true, Bool.and_self, if_true]
  rw [decide_eq_true_eq, timesM_one]
  have hp := prodG_log hv h.md.log (es := ((expsM attrs).zip b.ys).map fun p => plusQ s p.2 (mulQ s d [b.s, p.1])) hl.symm
  rw [eq_iff hv hp.2.1 (times_log hv (pow_log hv l1) l2) hp.2.2 (timesG_range hg _ _)]
  obtain ⟨k, hk⟩ := h.ans (d := d)
  obtain ⟨l, hl⟩ := h.md.log_dvd attrs
  generalize dot m.bases (((expsM attrs).zip b.ys).map fun p => plusQ s p.2 (mulQ s d [b.s, p.1])) = X at *
  generalize dot m.bases b.ys = Y at *
  generalize dot m.bases (expsM attrs) = Z at *
  generalize logM s m attrs = A at *
  have e1 : A = Z + s.g.Q * l := by grind
  refine ⟨k - l * b.s * d, ?_⟩
  rw [e1]; grind
end
end TpA
namespace TpA
open FdSpec FdPoly GrLaw GrPr TkSpec
section
variable {g : Grp} {m : Mir} {s : Stp} {attrs : List Int} {b : Bld} {x w : Int} (h : Hon g m s attrs b x w)
include h
end
end TpA
namespace TpA
open FdSpec FdPoly GrLaw GrPr TkSpec
section
variable {g : Grp} {m : Mir} {s : Stp} {attrs : List Int} {b : Bld} {x w : Int} (h : Hon g m s attrs b x w)
include h
end
end TpA
namespace TpA
open FdSpec FdPoly GrLaw GrPr TkSpec
section
variable {g : Grp} {m : Mir} {s : Stp} {attrs attrs' : List Int} {b : Bld} {x w w' n : Int}
def hT (s : Stp) (attrs : List Int) (b : Bld) (x w : Int) : Tkt :=
  { askTkt s attrs (proposeM s x attrs w).1 b with r := plusQ s (mulQ s (grantM s x w (askC s attrs (proposeM s x attrs w).1 b)) [b.u]) b.v }
def hSes (s : Stp) (attrs : List Int) (b : Bld) (x w : Int) : Ses := ⟨attrs, (proposeM s x attrs w).1, askC s attrs (proposeM s x attrs w).1 b, grantM s x w (askC s attrs (proposeM s x attrs w).1 b)⟩
end
end TpA
namespace TpA
open FdSpec FdPoly GrLaw GrPr TkSpec
section
variable {g : Grp} {m : Mir} {s : Stp} {attrs attrs' : List Int} {b : Bld} {x w w' n : Int}
end
end TpA
namespace TpA
open FdSpec FdPoly GrLaw GrPr TkSpec
section
variable {g : Grp} {m : Mir} {s : Stp} {attrs attrs' : List Int} {b : Bld} {x w w' n : Int}
end
end TpA
namespace TpA
open FdSpec FdPoly GrLaw GrPr TkSpec
section
variable {g : Grp} {m : Mir} {s : Stp} {attrs attrs' : List Int} {b : Bld} {x w w' n : Int}
theorem use_len (h : Hon g m s attrs b x w) {d : Int} (hd : 1 ≤ d ∧ d < s.g.Q) : (useM s attrs b d).1.answers.length = s.bases.length := by
  obtain ⟨h1, h2⟩ := h.lens
  rw [h.use_ok hd]
  show (((expsM attrs).zip b.ys).map _).length = _
  rw [List.length_map, List.length_zip]; omega
end
end TpA
namespace TpA
open FdSpec FdPoly GrLaw GrPr TkSpec
theorem fine_hon {g : Grp} {m : Mir} {s : Stp} {attrs : List Int} {b : Bld} {x w : Int} (hmd : Md g m s) (hf : askFine s (publicM s x) attrs (proposeM s x attrs w).1 b = true) :
    Hon g m s attrs b x w ∧ (proposeM s x attrs w).2 = 0 := by
  unfold askFine at hf
  simp only [Bool.and_eq_true] at hf
  obtain ⟨⟨⟨⟨hu, hk⟩, he⟩, _⟩, hb⟩ := hf
  by_cases hc : ((usableM s attrs).2 && numsM s 1 [x] && numsM s 0 [w]) = true
  · have h0 : (proposeM s x attrs w).2 = 0 := by unfold proposeM; rw [if_pos hc]
    simp only [Bool.and_eq_true] at hc
    exact ⟨⟨hmd, hu, hb, nums_one.mp hc.1.2, nums_one.mp hc.2⟩, h0⟩
  · exfalso
    have e : (proposeM s x attrs w).1 = ⟨0, 0, 0⟩ := by unfold proposeM; rw [if_neg hc]
    rw [e] at he
    simp [elementsM, elemG] at he
theorem askErr_cases (s : Stp) (key : Int) (attrs : List Int) (o : Off) (b : Bld) : (askFine s key attrs o b = false ∧ askErr s key attrs o b = 1) ∨ (askFine s key attrs o b = true ∧ innerQ s (askTkt s attrs o b) = 0 ∧ askErr s key attrs o b = 7) ∨
    (askFine s key attrs o b = true ∧ innerQ s (askTkt s attrs o b) ≠ 0 ∧ askErr s key attrs o b = 0) := by
  unfold askErr
  cases askFine s key attrs o b with
  | false => exact .inl ⟨rfl, rfl⟩
  | true =>
    by_cases h : innerQ s (askTkt s attrs o b) = 0
    · exact .inr (.inl ⟨rfl, h, by simp [h]⟩)
    · exact .inr (.inr ⟨rfl, h, by simp [h]⟩)
end TpA
namespace Go.Proofs
open Go Go.Sh Go.RowKit FdSpec TkSpec CodeSpec
set_option linter.unusedSimpArgs false
set_option linter.unusedVariables false
set_option maxRecDepth 10000
section
variable {K : Value → World → Prop} {w w0 : World} {L : List (Addr × Value)}
theorem local_stpK {K : Value → World → Prop} {T' T2 : TypeId} (s : Stp) (ad : Option Addr) (m c : Nat) (hk : Kn w0 L w)
    (k : ∀ b W, Kn w0 (cellsOf L b 0 (stpC s (.slice ad m c))) W → Below w.heap.size w W → w.heap.size ≤ b → K (.pointer (some ⟨b, 0, none⟩)) W) :
    oM Tryz.prog (.alloc 32) T' [] (fun v w => oM Tryz.prog (.store 32 (.tmp 0) (.tmp 1)) T2 [v, stpV s (.slice ad m c)] (fun _ w => K v w) w) w :=
  local_kn al_stp rfl sz_stp rfl rfl (stp_one s ad m c) hk k
theorem spd_R {w : World} {s : Stp} {l : List Int} {b : Bld} {d : Int} {uv : Value} (hd : I64 d) (hu : Ints w uv (useM s l b d).1.answers) : SpdR w (useM s l b d).1 uv := by
  refine ⟨?_, hu⟩
  unfold useM
  split
  · exact hd
  · constructor <;> decide
theorem made_of {c : Cas} (hmd : (madeM c).2 = true) : TpA.Md (makeG c.q).1 c.m (madeM c).1 ∧ (madeM c).1.g.Q = c.q := by
  unfold madeM at hmd ⊢
  split at hmd
  · rename_i h0
    rw [if_pos h0]
    have h1 := TpA.made_md hmd
    exact ⟨h1, by rw [h1.eg]; exact (TpA.makeG_valid h0).2⟩
  · cases hmd
structure IsH (c : Cas) : Prop where
  small : smallM c = true
  made : (madeM c).2 = true
  s : (issuedM c).s = (madeM c).1
  hon : TpA.Hon (makeG c.q).1 c.m (madeM c).1 c.attrs c.b c.x c.w
  inn : innerQ (madeM c).1 (askTkt (madeM c).1 c.attrs (proposeM (madeM c).1 c.x c.attrs c.w).1 c.b) ≠ 0
  x : (issuedM c).x = TpA.hSes (madeM c).1 c.attrs c.b c.x c.w
  t : (issuedM c).t = TpA.hT (madeM c).1 c.attrs c.b c.x c.w
theorem issued_hon {c : Cas} (h : (issuedM c).ok = true) : IsH c := by
  cases hsm : smallM c with
  | false => unfold issuedM at h; rw [hsm] at h; simp at h
  | true =>
  cases hmd : (madeM c).2 with
  | false => unfold issuedM at h; rw [hsm, hmd] at h; simp at h
  | true =>
  have h1 := (made_of hmd).1
  have e : (askM (madeM c).1 (publicM (madeM c).1 c.x) c.attrs (proposeM (madeM c).1 c.x c.attrs c.w).1 c.b).2 = askErr (madeM c).1 (publicM (madeM c).1 c.x) c.attrs (proposeM (madeM c).1 c.x c.attrs c.w).1 c.b := rfl
  rcases TpA.askErr_cases (madeM c).1 (publicM (madeM c).1 c.x) c.attrs (proposeM (madeM c).1 c.x c.attrs c.w).1 c.b with ⟨hf, he⟩ | ⟨hf, hi, he⟩ | ⟨hf, hi, he⟩
  · unfold issuedM at h; rw [hsm, hmd, e, he] at h; simp at h
  · unfold issuedM at h; rw [hsm, hmd, e, he] at h; simp at h
  obtain ⟨hh, hp⟩ := TpA.fine_hon h1 hf
  have ea : (askM (madeM c).1 (publicM (madeM c).1 c.x) c.attrs (proposeM (madeM c).1 c.x c.attrs c.w).1 c.b).1 = askC (madeM c).1 c.attrs (proposeM (madeM c).1 c.x c.attrs c.w).1 c.b := by
    unfold askM; dsimp only; rw [if_pos he]
  have ei : issuedM c = ⟨(madeM c).1, TpA.hSes (madeM c).1 c.attrs c.b c.x c.w, TpA.hT (madeM c).1 c.attrs c.b c.x c.w, true⟩ := by
    unfold issuedM
    rw [hsm, hmd, e, he, hp, ea, hh.finish hi, if_pos (hh.grant hh.chal.2).2, if_pos rfl]
    rfl
  exact ⟨hsm, hmd, by rw [ei], hh, hi, by rw [ei], by rw [ei]⟩
end
end Go.Proofs
