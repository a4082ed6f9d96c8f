/- DkI0: a part of the proof of the seat's statements: lemmas about the given translation and plain laws. No condition of its own. -/
--Q
import Derived.Test.YtefjibjojkjiiaaDkH
set_option linter.all false
namespace Go.Proofs
open Go Go.Sh Go.RowKit DkSpec
set_option linter.unusedSimpArgs false
set_option linter.unusedVariables false
set_option maxRecDepth 10000
def crTail (a0 v5_20 v6_32 v39_31 x : Value) (M_16 : List Value → World → Prop) (w : World) : Prop :=
 (stageM w (fun C_52 w => (oH Try.prog (Go.Op.fieldAddr 62 (.tmp 0) 1) 0 [v6_32] (upto C_52 0) (fun v61_53 =>
 oH Try.prog (Go.Op.load 9 (.tmp 0)) 9 [v61_53] (upto C_52 0) (fun v62_54 =>
 pureH v39_31 (upto C_52 0) (fun v63_55 =>
 oH Try.prog (Go.Op.fieldAddr 62 (.tmp 0) 0) 0 [v6_32] (upto C_52 0) (fun v64_56 =>
 oH Try.prog (Go.Op.load 9 (.tmp 0)) 9 [v64_56] (upto C_52 0) (fun v65_57 =>
 pureH v39_31 (upto C_52 0) (fun v66_58 =>
 pureH v39_31 (upto C_52 0) (fun v67_59 =>
 oH Try.prog (Go.Op.binOp Go.BinOp.add 3 (.tmp 0) (.tmp 1) 3) 3 [v67_59, (.int .i64 64)] (upto C_52 0) (fun v68_60 =>
 oH Try.prog (Go.Op.fieldAddr 62 (.tmp 0) 0) 0 [v6_32] (upto C_52 0) (fun v69_61 =>
 oH Try.prog (Go.Op.load 9 (.tmp 0)) 9 [v69_61] (upto C_52 0) (fun v70_62 =>
 oH Try.prog (Go.Op.call (Go.Call.mk (Go.Callee.builtin Go.Builtin.len) #[(.tmp 0)] #[9])) 3 [v70_62] (upto C_52 0) (fun v71_63 =>
 oH Try.prog (Go.Op.call (Go.Call.mk (Go.Callee.builtin Go.Builtin.min) #[(.tmp 0), (.tmp 1)] #[3, 3])) 3 [v68_60, v71_63] (upto C_52 0) (fun v72_64 =>
 oH Try.prog (Go.Op.slice 9 (.tmp 0) (some (.tmp 1)) (some (.tmp 2)) none) 9 [v65_57, v66_58, v72_64] (upto C_52 0) (fun v73_65 =>
 callM Try.prog 46 #[v62_54, v63_55, v73_65] (fun v74_66 w => C_52 1 w ∧ (
 oM Try.prog (Go.Op.fieldAddr 62 (.tmp 0) 1) 0 [v6_32] (fun v75_67 w => C_52 2 w ∧ (
 oM Try.prog (Go.Op.store 9 (.tmp 0) (.tmp 1)) 0 [v75_67, v74_66] (fun _ w => C_52 3 w ∧ (
 stageM w (fun C_68 w => (pureH a0 (upto C_68 0) (fun v76_69 =>
 oH Try.prog (Go.Op.nilCheck (.tmp 0)) 0 [v76_69] (upto C_68 0) (fun v77_70 =>
 oH Try.prog (Go.Op.fieldAddr 54 (.tmp 0) 0) 0 [v77_70] (upto C_68 0) (fun v78_71 =>
 oH Try.prog (Go.Op.load 50 (.tmp 0)) 50 [v78_71] (upto C_68 0) (fun v79_72 =>
 oH Try.prog (Go.Op.fieldAddr 69 (.tmp 0) 0) 0 [v5_20] (upto C_68 0) (fun v80_73 =>
 oH Try.prog (Go.Op.load 3 (.tmp 0)) 3 [v80_73] (upto C_68 0) (fun v81_74 =>
 oH Try.prog (Go.Op.load 62 (.tmp 0)) 62 [v6_32] (upto C_68 0) (fun v82_75 =>
 oM Try.prog (Go.Op.mapUpdate 50 (.tmp 0) (.tmp 1) (.tmp 2)) 0 [v79_72, v81_74, v82_75] (fun _ w => C_68 1 w ∧ (
 M_16 [x, v39_31] w)) w))))))))))) w)) w)) w))))))))))))))))
def crEnd (a0 : Value) (K : Value → World → Prop) (w : World) : Prop :=
 (oM Try.prog (Go.Op.nilCheck (.tmp 0)) 0 [a0] (fun v85_77 w =>
 oM Try.prog (Go.Op.fieldAddr 54 (.tmp 0) 0) 0 [v85_77] (fun v86_78 w =>
 oM Try.prog (Go.Op.load 50 (.tmp 0)) 50 [v86_78] (fun v87_79 w =>
 oM Try.prog (Go.Op.range 50 (.tmp 0)) 0 [v87_79] (fun v88_80 w =>
 loopM [undef] w (fun J_81 m_82 l_83 u_l_83 w0_l_83 => (fun w => (
 oM Try.prog (Go.Op.next (.tmp 0) false) 0 [v88_80] (fun v89_84 w =>
 oM Try.prog (Go.Op.extract (.tmp 0) 0) 4 [v89_84] (fun v90_85 w =>
 condM v90_85
 (oM Try.prog (Go.Op.entry (.tmp 0)) 0 [v88_80] (fun v91_86 w =>
 oM Try.prog (Go.Op.extract (.tmp 0) 0) 3 [v91_86] (fun v92_87 w =>
 oM Try.prog (Go.Op.extract (.tmp 0) 1) 62 [v91_86] (fun v93_88 w =>
 oM Try.prog (Go.Op.alloc 62) 0 [] (fun v9_89 w =>
 oM Try.prog (Go.Op.store 62 (.tmp 0) (.tmp 1)) 0 [v9_89, v93_88] (fun _ w =>
 stageM w (fun C_90 w => (pureH a0 (upto C_90 1) (fun v94_91 =>
 oH Try.prog (Go.Op.nilCheck (.tmp 0)) 0 [v94_91] (upto C_90 1) (fun v95_92 =>
 oH Try.prog (Go.Op.fieldAddr 54 (.tmp 0) 0) 0 [v95_92] (upto C_90 1) (fun v96_93 =>
 oH Try.prog (Go.Op.load 50 (.tmp 0)) 50 [v96_93] (upto C_90 1) (fun v97_94 =>
 pureH v92_87 (upto C_90 1) (fun v98_95 =>
 oH Try.prog (Go.Op.fieldAddr 62 (.tmp 0) 1) 0 [v9_89] (upto C_90 0) (fun v99_96 =>
 oH Try.prog (Go.Op.load 9 (.tmp 0)) 9 [v99_96] (upto C_90 0) (fun v100_97 =>
 oH Try.prog (Go.Op.fieldAddr 62 (.tmp 0) 1) 0 [v9_89] (upto C_90 0) (fun v101_98 =>
 oH Try.prog (Go.Op.load 9 (.tmp 0)) 9 [v101_98] (upto C_90 0) (fun v102_99 =>
 oM Try.prog (Go.Op.build 62 #[(0, (.tmp 0)), (1, (.tmp 1))]) 62 [v100_97, v102_99] (fun v103_100 w => C_90 1 w ∧ (
 oM Try.prog (Go.Op.mapUpdate 50 (.tmp 0) (.tmp 1) (.tmp 2)) 0 [v97_94, v98_95, v103_100] (fun _ w => C_90 2 w ∧ (
 J_81 [v92_87] w ∧ m_82 [v92_87] w < m_82 l_83 w0_l_83)) w)) w)))))))))))) w) w) w) w) w)
 (oM Try.prog (Go.Op.makeMap 51 none) 51 [] (fun v106_101 w =>
 oM Try.prog (Go.Op.nilCheck (.tmp 0)) 0 [a0] (fun v107_102 w =>
 oM Try.prog (Go.Op.fieldAddr 54 (.tmp 0) 1) 0 [v107_102] (fun v108_103 w =>
 oM Try.prog (Go.Op.store 52 (.tmp 0) (.tmp 1)) 0 [v108_103, (.slice none 0 0)] (fun _ w =>
 oM Try.prog (Go.Op.nilCheck (.tmp 0)) 0 [a0] (fun v109_104 w =>
 oM Try.prog (Go.Op.fieldAddr 54 (.tmp 0) 2) 0 [v109_104] (fun v110_105 w =>
 oM Try.prog (Go.Op.store 51 (.tmp 0) (.tmp 1)) 0 [v110_105, v106_101] (fun _ w =>
 K (.tuple #[]) w) w) w) w) w) w) w) w)) w) w)) w0_l_83)) w) w) w) w)

section
variable {w : World} {b : Nat} {A : Ab} {h : Dk} {K : Value → World → Prop}
set_option maxHeartbeats 1000000 in
theorem crTail_ok {n m : Nat} {p : Int × Int} {x : Value} {M : List Value → World → Prop} (d : IsDk w b A h) (hp : w.heap[n]? = some (.cells #[.int .i64 p.1, .int .i64 p.2] 69 (0, 0))) {cur : Array Value} (hm : w.heap[m]? = some (.cells cur 62 (0, 0))) (hc0 : cur[0]? = some (bsV (A.F p.1).1)) (hc1 : cur[1]? = some (bsV (A.F p.1).2)) (hs : cur.size = 2)
    (hn : ¬ Own b h n) (hm' : ¬ Own b h m) (hm2 : ¬ Rdb h m) (hnm : n ≠ m) (h0 : 0 ≤ p.2 ∧ p.2 < 262144) (hbig : 64 * p.2 < ((A.F p.1).1.length : Int))
    (k : ∀ w', IsDk w' b { A with F := setF A.F p.1 ((A.F p.1).1, putB (A.F p.1).2 (64 * p.2).toNat (DkSpec.sector (A.F p.1).1 p.2)) } h → Fr (fun i => Own b h i ∨ i = m) w w' → M [x, .int .i64 (64 * p.2)] w') : crTail (dkP b) (.pointer (some ⟨n, 0, none⟩)) (.pointer (some ⟨m, 0, none⟩)) (.int .i64 (64 * p.2)) x M w := by
  unfold crTail
  have z0 := cell_of_block hm 0
  have z1 := cell_of_block hm 1
  have hsz := d.wf.sz p.1
  obtain ⟨now, hnow⟩ : ∃ now, now = (A.F p.1).1 := ⟨_, rfl⟩
  obtain ⟨last, hlast⟩ : ∃ last, last = (A.F p.1).2 := ⟨_, rfl⟩
  rw [← hnow, ← hlast] at hsz
  rw [← hnow] at hc0 hbig
  rw [← hlast] at hc1
  rw [hc0] at z0
  rw [hc1] at z1
  obtain ⟨a, ha⟩ : ∃ a : Nat, (a : Int) = 64 * p.2 := ⟨(64 * p.2).toNat, by omega⟩
  have hmin : min ((a : Int) + 64) (now.length : Int) = ((min (a + 64) now.length : Nat) : Int) := by omega
  rw [← ha] at hbig ⊢
  refine ⟨fun sg w' => sg ≤ 0 → w'.heap = w.heap, fun _ => rfl, ?_⟩
  have hwr : IntKind.i64.wrap ((a : Int) + 64) = (a : Int) + 64 := wrapI64 _ (by omega) (by omega)
  repeat (first | (with_reducible refine pureH_in ?_) | (with_reducible refine oH_nil ?_) | (with_reducible refine gdH_true rfl ?_) | (with_reducible refine gdH_false rfl ?_) | (refine oH_of ⟨_, rfl⟩ (fun W0 hW0 => by (obtain ⟨s0, hs0, hC⟩ := hW0); (refine oM_gen (fun Kv hK => ?_)); simp [go_sem, cell_heap (hC (by omega)), z0, z1, hwr, hmin, ba_ext]; (first | exact hK _ _ ⟨rfl, rfl⟩ | exact ⟨by omega, hK _ _ ⟨rfl, rfl⟩⟩)) ?_))
  have hsec : (now.drop a).take (min (a + 64) now.length - a) = DkSpec.sector now p.2 := by
    unfold DkSpec.sector
    rw [← ha, Int.toNat_natCast, List.take_eq_take_iff, List.length_drop]
    omega
  simp only [bsV, Int.toNat_natCast]
  rw [hsec]
  generalize hw2 : ({ w with drawn := w.drawn + 1 } : World) = w2
  have hh : w2.heap = w.heap := by rw [← hw2]
  have f2 : Fr (fun _ => False) w w2 := by rw [← hw2]; exact (Fr.refl _ _).drew
  clear hw2
  have hsl : (DkSpec.sector now p.2).length ≤ 64 := by unfold DkSpec.sector; simp; omega
  refine put_ok' last (DkSpec.sector now p.2) (a : Int) (by omega) (by have := hsl; unfold DkSpec.sector at *; simp at *; omega) hsz.2 (fun w3 f3 => ⟨fun hs => absurd hs (by decide), ?_⟩)
  have f03 := f2.trans f3 (fun _ h => h.elim)
  have d3 := d.fresh f03
  have hml := (Array.getElem?_eq_some_iff.1 hm).1
  have hpl := (Array.getElem?_eq_some_iff.1 hp).1
  have hm3 := (f03.block m hml (fun h => h)).trans hm
  have hp3 := (f03.block n hpl (fun h => h)).trans hp
  have y1 := frozen_of_block hm3 1
  have q1 := cell_of_block hm3 1
  rw [hc1] at q1
  have hm4 := block_set (i := 1) hm3 (bsV (putB last a (DkSpec.sector now p.2)))
  have hp4 := (setCell_heap_ne w3 ⟨m, 1, none⟩ (bsV (putB last a (DkSpec.sector now p.2))) n hnm).trans hp3
  have d4 : IsDk (w3.setCell ⟨m, 1, none⟩ (bsV (putB last a (DkSpec.sector now p.2)))) b A h := d3.keep (fun i hi => setCell_heap_ne _ _ _ _ (fun e => by subst e; exact hi.elim hm' hm2))
  rw [Int.toNat_natCast]
  repeat (any_goals (first
  | (with_reducible refine pureM_in ?_)
  | (with_reducible refine pureQ_in ?_) | (with_reducible refine gdQ_conv (fun _ => ?_)) | (with_reducible refine pickQT ?_) | (with_reducible refine pickQF ?_) | (with_reducible refine pickQ_pos (by first | assumption | omega) ?_) | (with_reducible refine pickQ_neg (by first | assumption | omega) ?_) | (with_reducible refine pickQn_pos (by first | assumption | omega) ?_) | (with_reducible refine pickQn_neg (by first | assumption | omega) ?_) | ((with_reducible refine oQ_one ?_ ?_); exact ⟨_, rfl⟩) | (with_reducible refine And.intro (Eq.refl (α := World) _) ?_) | (with_reducible refine forall_one ?_) | (with_reducible refine oQ_nil ?_) | (with_reducible refine oQ_of ⟨_, rfl⟩ (fun W0 hW0 => by (refine oM_gen (fun Kv hK => ?_)); simp [go_sem]; (first | exact hK _ _ ⟨rfl, rfl⟩ | exact ⟨by omega, hK _ _ ⟨rfl, rfl⟩⟩)) ?_)
  | (with_reducible refine And.intro (fun hs => absurd hs (by decide)) ?_)
  | (with_reducible refine gdtT ?_) | (with_reducible refine gdtF ?_) | (with_reducible refine gdfF ?_) | (with_reducible refine gdfT ?_) | (with_reducible refine gdu ?_ _)
  | (with_reducible refine gdt_pos (by first | assumption | omega) ?_) | (with_reducible refine gdt_neg (by first | assumption | omega) ?_) | (with_reducible refine gdt_split (fun hg => ?_) (fun hg => ?_))
  | (with_reducible refine gdf_pos (by first | assumption | omega) ?_) | (with_reducible refine gdf_neg (by first | assumption | omega) ?_) | (with_reducible refine gdf_split (fun hg => ?_) (fun hg => ?_))
  | (with_reducible refine gdtn_pos (by first | assumption | omega) ?_) | (with_reducible refine gdtn_neg (by first | assumption | omega) ?_) | (with_reducible refine gdtn_split (fun hg => ?_) (fun hg => ?_))
  | (with_reducible refine gdfn_pos (by first | assumption | omega) ?_) | (with_reducible refine gdfn_neg (by first | assumption | omega) ?_) | (with_reducible refine gdfn_split (fun hg => ?_) (fun hg => ?_))
  | (with_reducible refine gdtbn_pos (by assumption) ?_) | (with_reducible refine gdtbn_neg (by assumption) ?_) | (with_reducible refine gdfbn_pos (by assumption) ?_) | (with_reducible refine gdfbn_neg (by assumption) ?_)
  | (with_reducible refine gdtb_pos (by assumption) ?_) | (with_reducible refine gdtb_neg (by assumption) ?_) | (with_reducible refine gdtb_split (fun hg => ?_) (fun hg => ?_))
  | (with_reducible refine gdfb_pos (by assumption) ?_) | (with_reducible refine gdfb_neg (by assumption) ?_) | (with_reducible refine gdfb_split (fun hg => ?_) (fun hg => ?_))
  | (with_reducible refine pickT ?_) | (with_reducible refine pickF ?_)
  | (with_reducible refine pick_pos (by first | assumption | omega) ?_) | (with_reducible refine pick_neg (by first | assumption | omega) ?_)
  | (with_reducible refine pickn_pos (by first | assumption | omega) ?_) | (with_reducible refine pickn_neg (by first | assumption | omega) ?_)
  | (with_reducible refine pickbn_pos (by assumption) ?_) | (with_reducible refine pickbn_neg (by assumption) ?_)
  | (with_reducible refine pickb_pos (by assumption) ?_) | (with_reducible refine pickb_neg (by assumption) ?_)
  | (with_reducible refine condT ?_) | (with_reducible refine condF ?_)
  | (with_reducible refine cond_pos (by first | assumption | omega) ?_) | (with_reducible refine cond_neg (by first | assumption | omega) ?_) | (with_reducible refine condM_dec (fun hg => ?_) (fun hg => ?_))
  | (with_reducible refine condn_pos (by first | assumption | omega) ?_) | (with_reducible refine condn_neg (by first | assumption | omega) ?_) | (with_reducible refine condM_ndec (fun hg => ?_) (fun hg => ?_))
  | (with_reducible refine condbn_pos (by assumption) ?_) | (with_reducible refine condbn_neg (by assumption) ?_) | (with_reducible refine condbn_split (fun hg => ?_) (fun hg => ?_))
  | (with_reducible refine condb_pos (by assumption) ?_) | (with_reducible refine condb_neg (by assumption) ?_) | (with_reducible refine condM_b (fun hg => ?_) (fun hg => ?_))
  | ((with_reducible refine oM_gen (fun Kv hK => ?_)); simp [go_sem, y1, q1]; (try simp (disch := omega) only [wrapI64, wrapU8, wrapU32, wrapU64]); (first | refine hK _ _ ?_ | refine And.intro (by omega) (hK _ _ ?_)); clear hK; clear Kv)))
  have f04 : Fr (fun i => Own b h i ∨ i = m) w (w3.setCell ⟨m, 1, none⟩ (bsV (putB last a (DkSpec.sector now p.2)))) := (f03.mono (fun i _ hi => hi.elim)).set ⟨m, 1, none⟩ _ (.inl (.inr rfl))
  generalize w3.setCell ⟨m, 1, none⟩ (bsV (putB last a (DkSpec.sector now p.2))) = w4 at *
  have c0 := d4.c 0
  simp only [dkCells] at c0
  have e0 := cell_of_block hm4 0
  have e1 := cell_of_block hm4 1
  have g0 := cell_of_block hp4 0
  simp at g0
  have h1lt : 1 < cur.size := by omega
  rw [Array.getElem?_setIfInBounds_ne (by omega), hc0] at e0
  rw [Array.getElem?_setIfInBounds_self_of_lt h1lt] at e1
  refine ⟨fun sg w' => sg ≤ 0 → w'.heap = w4.heap, fun _ => rfl, ?_⟩
  repeat (first | (with_reducible refine pureH_in ?_) | (with_reducible refine oH_nil ?_) | (with_reducible refine gdH_true rfl ?_) | (with_reducible refine gdH_false rfl ?_) | (refine oH_of ⟨_, rfl⟩ (fun W0 hW0 => by (obtain ⟨s0, hs0, hC⟩ := hW0); (refine oM_gen (fun Kv hK => ?_)); simp [go_sem, cell_heap (hC (by omega)), c0, e0, e1, g0]; (first | exact hK _ _ ⟨rfl, rfl⟩ | exact ⟨by omega, hK _ _ ⟨rfl, rfl⟩⟩)) ?_))
  generalize hw5 : ({ w4 with drawn := w4.drawn + 1 } : World) = w5
  have d5 : IsDk w5 b A h := d4.heap (by rw [← hw5])
  have f05 : Fr (fun i => Own b h i ∨ i = m) w w5 := by rw [← hw5]; exact f04.drew
  clear hw5
  have hpl2 := putB_length last a (DkSpec.sector now p.2)
  obtain ⟨w6, hr6, d6, t6⟩ := d5.setFile p.1 (now, putB last a (DkSpec.sector now p.2)) ⟨hsz.1, by
    show (putB last a (DkSpec.sector now p.2)).length ≤ _
    rw [hpl2]
    split
    · exact hsz.2
    · have hs2 : (DkSpec.sector now p.2).length ≤ now.length - a := by rw [← hsec]; simp; omega
      omega⟩
  simp only at hr6
  repeat (any_goals (first
  | (with_reducible refine pureM_in ?_)
  | (with_reducible refine pureQ_in ?_) | (with_reducible refine gdQ_conv (fun _ => ?_)) | (with_reducible refine pickQT ?_) | (with_reducible refine pickQF ?_) | (with_reducible refine pickQ_pos (by first | assumption | omega) ?_) | (with_reducible refine pickQ_neg (by first | assumption | omega) ?_) | (with_reducible refine pickQn_pos (by first | assumption | omega) ?_) | (with_reducible refine pickQn_neg (by first | assumption | omega) ?_) | ((with_reducible refine oQ_one ?_ ?_); exact ⟨_, rfl⟩) | (with_reducible refine And.intro (Eq.refl (α := World) _) ?_) | (with_reducible refine forall_one ?_) | (with_reducible refine oQ_nil ?_) | (with_reducible refine oQ_of ⟨_, rfl⟩ (fun W0 hW0 => by (refine oM_gen (fun Kv hK => ?_)); simp [go_sem]; (first | exact hK _ _ ⟨rfl, rfl⟩ | exact ⟨by omega, hK _ _ ⟨rfl, rfl⟩⟩)) ?_)
  | (with_reducible refine And.intro (fun hs => absurd hs (by decide)) ?_)
  | (with_reducible refine gdtT ?_) | (with_reducible refine gdtF ?_) | (with_reducible refine gdfF ?_) | (with_reducible refine gdfT ?_) | (with_reducible refine gdu ?_ _)
  | (with_reducible refine gdt_pos (by first | assumption | omega) ?_) | (with_reducible refine gdt_neg (by first | assumption | omega) ?_) | (with_reducible refine gdt_split (fun hg => ?_) (fun hg => ?_))
  | (with_reducible refine gdf_pos (by first | assumption | omega) ?_) | (with_reducible refine gdf_neg (by first | assumption | omega) ?_) | (with_reducible refine gdf_split (fun hg => ?_) (fun hg => ?_))
  | (with_reducible refine gdtn_pos (by first | assumption | omega) ?_) | (with_reducible refine gdtn_neg (by first | assumption | omega) ?_) | (with_reducible refine gdtn_split (fun hg => ?_) (fun hg => ?_))
  | (with_reducible refine gdfn_pos (by first | assumption | omega) ?_) | (with_reducible refine gdfn_neg (by first | assumption | omega) ?_) | (with_reducible refine gdfn_split (fun hg => ?_) (fun hg => ?_))
  | (with_reducible refine gdtbn_pos (by assumption) ?_) | (with_reducible refine gdtbn_neg (by assumption) ?_) | (with_reducible refine gdfbn_pos (by assumption) ?_) | (with_reducible refine gdfbn_neg (by assumption) ?_)
  | (with_reducible refine gdtb_pos (by assumption) ?_) | (with_reducible refine gdtb_neg (by assumption) ?_) | (with_reducible refine gdtb_split (fun hg => ?_) (fun hg => ?_))
  | (with_reducible refine gdfb_pos (by assumption) ?_) | (with_reducible refine gdfb_neg (by assumption) ?_) | (with_reducible refine gdfb_split (fun hg => ?_) (fun hg => ?_))
  | (with_reducible refine pickT ?_) | (with_reducible refine pickF ?_)
  | (with_reducible refine pick_pos (by first | assumption | omega) ?_) | (with_reducible refine pick_neg (by first | assumption | omega) ?_)
  | (with_reducible refine pickn_pos (by first | assumption | omega) ?_) | (with_reducible refine pickn_neg (by first | assumption | omega) ?_)
  | (with_reducible refine pickbn_pos (by assumption) ?_) | (with_reducible refine pickbn_neg (by assumption) ?_)
  | (with_reducible refine pickb_pos (by assumption) ?_) | (with_reducible refine pickb_neg (by assumption) ?_)
  | (with_reducible refine condT ?_) | (with_reducible refine condF ?_)
  | (with_reducible refine cond_pos (by first | assumption | omega) ?_) | (with_reducible refine cond_neg (by first | assumption | omega) ?_) | (with_reducible refine condM_dec (fun hg => ?_) (fun hg => ?_))
  | (with_reducible refine condn_pos (by first | assumption | omega) ?_) | (with_reducible refine condn_neg (by first | assumption | omega) ?_) | (with_reducible refine condM_ndec (fun hg => ?_) (fun hg => ?_))
  | (with_reducible refine condbn_pos (by assumption) ?_) | (with_reducible refine condbn_neg (by assumption) ?_) | (with_reducible refine condbn_split (fun hg => ?_) (fun hg => ?_))
  | (with_reducible refine condb_pos (by assumption) ?_) | (with_reducible refine condb_neg (by assumption) ?_) | (with_reducible refine condM_b (fun hg => ?_) (fun hg => ?_))
  | ((with_reducible refine oM_gen (fun Kv hK => ?_)); simp [go_sem, hr6]; (try simp (disch := omega) only [wrapI64, wrapU8, wrapU32, wrapU64]); (first | refine hK _ _ ?_ | refine And.intro (by omega) (hK _ _ ?_)); clear hK; clear Kv)))
  rw [← hnow, ← hlast, ← ha, Int.toNat_natCast] at k
  exact k w6 d6 (f05.trans t6.fr (fun i hi => .inl (.inl hi)))
/-- the files' list, some of them made durable -/
def durL (F : Int → Bs × Bs) (l : List (Int × Value)) (done : List Int) : List (Int × Value) := l.map (fun y => (y.1, if y.1 ∈ done then flV ((F y.1).2, (F y.1).2) else y.2))
theorem durL_nil (F : Int → Bs × Bs) (l : List (Int × Value)) : durL F l [] = l := by
  unfold durL
  have : (fun y : Int × Value => (y.1, if y.1 ∈ ([] : List Int) then flV ((F y.1).2, (F y.1).2) else y.2)) = id := by funext y; simp
  rw [this, List.map_id]
theorem durL_keys (F : Int → Bs × Bs) (l : List (Int × Value)) (done : List Int) : (durL F l done).map (·.1) = l.map (·.1) := by
  unfold durL; rw [List.map_map]; rfl
theorem durL_put (F : Int → Bs × Bs) (l : List (Int × Value)) (done : List Int) (k : Int) (hk : k ∈ l.map (·.1)) : putA (durL F l done) k (flV ((F k).2, (F k).2)) = durL F l (k :: done) := by
  unfold putA
  rw [if_pos ((lookA_isSome _ _).2 (by rw [durL_keys]; exact hk))]
  unfold durL
  rw [List.map_map]
  apply List.map_congr_left
  intro y _
  simp only [Function.comp]
  by_cases hy : y.1 = k
  · simp [hy]
  · simp [hy]
theorem durL_look (F : Int → Bs × Bs) (l : List (Int × Value)) (done : List Int) (k : Int) : lookA (durL F l done) k = (lookA l k).map (fun v => if k ∈ done then flV ((F k).2, (F k).2) else v) := by
  unfold durL
  exact lookA_mapVal (fun k v => if k ∈ done then flV ((F k).2, (F k).2) else v) l k
theorem flV_inj {x y : Bs × Bs} (h : flV x = flV y) : x = y := by
  obtain ⟨a, b⟩ := x
  obtain ⟨c, d⟩ := y
  simp [flV, bsV] at h
  simp [h.1, h.2]
theorem crEnd_ok (d : IsDk w b A h) (k : ∀ w' h', IsDk w' b { A with F := fun f => ((A.F f).2, (A.F f).2), queue := [] } h' → Step w b h w' h' → K (.tuple #[]) w') : crEnd (dkP b) K w := by
  unfold crEnd
  have c0 := d.c 0
  simp only [dkCells] at c0
  obtain ⟨l0, m0, hl0⟩ := d.files
  have hnd0 : (l0.map (·.1)).Nodup := by obtain ⟨es, c, h1, h2, h3, _⟩ := m0; exact h3
  obtain ⟨o, hr, R⟩ := run_range (P := Try.prog) (t := 50) (kt := 3) (et := 62) (by kernel_rfl) m0
  have f0 : Fr (fun i => i = h.fm) w (w.alloc o) := (Fr.refl _ _).alloc _
  repeat (any_goals (first
  | (with_reducible refine pureM_in ?_)
  | (with_reducible refine pureQ_in ?_) | (with_reducible refine gdQ_conv (fun _ => ?_)) | (with_reducible refine pickQT ?_) | (with_reducible refine pickQF ?_) | (with_reducible refine pickQ_pos (by first | assumption | omega) ?_) | (with_reducible refine pickQ_neg (by first | assumption | omega) ?_) | (with_reducible refine pickQn_pos (by first | assumption | omega) ?_) | (with_reducible refine pickQn_neg (by first | assumption | omega) ?_) | ((with_reducible refine oQ_one ?_ ?_); exact ⟨_, rfl⟩) | (with_reducible refine And.intro (Eq.refl (α := World) _) ?_) | (with_reducible refine forall_one ?_) | (with_reducible refine oQ_nil ?_) | (with_reducible refine oQ_of ⟨_, rfl⟩ (fun W0 hW0 => by (refine oM_gen (fun Kv hK => ?_)); simp [go_sem]; (first | exact hK _ _ ⟨rfl, rfl⟩ | exact ⟨by omega, hK _ _ ⟨rfl, rfl⟩⟩)) ?_)
  | (with_reducible refine gdtT ?_) | (with_reducible refine gdtF ?_) | (with_reducible refine gdfF ?_) | (with_reducible refine gdfT ?_) | (with_reducible refine gdu ?_ _)
  | (with_reducible refine gdt_pos (by first | assumption | omega) ?_) | (with_reducible refine gdt_neg (by first | assumption | omega) ?_) | (with_reducible refine gdt_split (fun hg => ?_) (fun hg => ?_))
  | (with_reducible refine gdf_pos (by first | assumption | omega) ?_) | (with_reducible refine gdf_neg (by first | assumption | omega) ?_) | (with_reducible refine gdf_split (fun hg => ?_) (fun hg => ?_))
  | (with_reducible refine gdtn_pos (by first | assumption | omega) ?_) | (with_reducible refine gdtn_neg (by first | assumption | omega) ?_) | (with_reducible refine gdtn_split (fun hg => ?_) (fun hg => ?_))
  | (with_reducible refine gdfn_pos (by first | assumption | omega) ?_) | (with_reducible refine gdfn_neg (by first | assumption | omega) ?_) | (with_reducible refine gdfn_split (fun hg => ?_) (fun hg => ?_))
  | (with_reducible refine gdtbn_pos (by assumption) ?_) | (with_reducible refine gdtbn_neg (by assumption) ?_) | (with_reducible refine gdfbn_pos (by assumption) ?_) | (with_reducible refine gdfbn_neg (by assumption) ?_)
  | (with_reducible refine gdtb_pos (by assumption) ?_) | (with_reducible refine gdtb_neg (by assumption) ?_) | (with_reducible refine gdtb_split (fun hg => ?_) (fun hg => ?_))
  | (with_reducible refine gdfb_pos (by assumption) ?_) | (with_reducible refine gdfb_neg (by assumption) ?_) | (with_reducible refine gdfb_split (fun hg => ?_) (fun hg => ?_))
  | (with_reducible refine pickT ?_) | (with_reducible refine pickF ?_)
  | (with_reducible refine pick_pos (by first | assumption | omega) ?_) | (with_reducible refine pick_neg (by first | assumption | omega) ?_)
  | (with_reducible refine pickn_pos (by first | assumption | omega) ?_) | (with_reducible refine pickn_neg (by first | assumption | omega) ?_)
  | (with_reducible refine pickbn_pos (by assumption) ?_) | (with_reducible refine pickbn_neg (by assumption) ?_)
  | (with_reducible refine pickb_pos (by assumption) ?_) | (with_reducible refine pickb_neg (by assumption) ?_)
  | (with_reducible refine condT ?_) | (with_reducible refine condF ?_)
  | (with_reducible refine cond_pos (by first | assumption | omega) ?_) | (with_reducible refine cond_neg (by first | assumption | omega) ?_) | (with_reducible refine condM_dec (fun hg => ?_) (fun hg => ?_))
  | (with_reducible refine condn_pos (by first | assumption | omega) ?_) | (with_reducible refine condn_neg (by first | assumption | omega) ?_) | (with_reducible refine condM_ndec (fun hg => ?_) (fun hg => ?_))
  | (with_reducible refine condbn_pos (by assumption) ?_) | (with_reducible refine condbn_neg (by assumption) ?_) | (with_reducible refine condbn_split (fun hg => ?_) (fun hg => ?_))
  | (with_reducible refine condb_pos (by assumption) ?_) | (with_reducible refine condb_neg (by assumption) ?_) | (with_reducible refine condM_b (fun hg => ?_) (fun hg => ?_))
  | ((with_reducible refine oM_gen (fun Kv hK => ?_)); simp [go_sem, c0, hr]; (try simp (disch := omega) only [wrapI64, wrapU8, wrapU32, wrapU64]); (first | refine hK _ _ ?_ | refine And.intro (by omega) (hK _ _ ?_)); clear hK; clear Kv)))
  generalize w.alloc o = w0 at *
  have hfm : h.fm < w.heap.size := m0.lt
  have hbl : b < w.heap.size := d.lt (.inl (.inl rfl))
  refine ⟨fun l w' => ∃ u done, l = [u] ∧ done.Nodup ∧ Ranged i64V w' w.heap.size h.fm (durL A.F l0 done) (l0.map (·.1)) done ∧ Fr (fun i => i = h.fm) w w', fun _ w' => (l0.map (·.1)).length + 1 - (w'.iterSeen w.heap.size).size, ⟨_, [], rfl, List.nodup_nil, by rw [durL_nil]; exact R, f0⟩, ?_⟩
  rintro l u w1 ⟨u1, done, rfl, hnd, R1, f1⟩
  have hlen := nodup_sub_len done _ hnd R1.sub
  have hseen := R1.seen
  rcases run_next (P := Try.prog) (ty := 0) R1 with ⟨hall, hn⟩ | ⟨y, hy, hyd, w2, hn, R2, g2, z2⟩
  · have m1 := R1.map
    have hF : ∀ f, (lookA (durL A.F l0 done) f).getD (flV ([], [])) = flV ((A.F f).2, (A.F f).2) := by
      intro f
      rw [durL_look]
      have h2 := hl0 f
      cases hlk : lookA l0 f with
      | none =>
        rw [hlk] at h2
        have := flV_inj h2
        simp only [Option.map_none, Option.getD_none]
        rw [← this]
      | some v =>
        have hfk : f ∈ l0.map (·.1) := (lookA_isSome _ _).1 (by rw [hlk]; rfl)
        rw [← durL_keys A.F l0 done] at hfk
        obtain ⟨y, hy, rfl⟩ := List.mem_map.1 hfk
        simp only [Option.map_some, Option.getD_some, if_pos (hall y hy)]
    have b1 := (f1.block b hbl d.bfm).trans d.blk
    repeat (any_goals (first
    | (with_reducible refine pureM_in ?_)
    | (with_reducible refine pureQ_in ?_) | (with_reducible refine gdQ_conv (fun _ => ?_)) | (with_reducible refine pickQT ?_) | (with_reducible refine pickQF ?_) | (with_reducible refine pickQ_pos (by first | assumption | omega) ?_) | (with_reducible refine pickQ_neg (by first | assumption | omega) ?_) | (with_reducible refine pickQn_pos (by first | assumption | omega) ?_) | (with_reducible refine pickQn_neg (by first | assumption | omega) ?_) | ((with_reducible refine oQ_one ?_ ?_); exact ⟨_, rfl⟩) | (with_reducible refine And.intro (Eq.refl (α := World) _) ?_) | (with_reducible refine forall_one ?_) | (with_reducible refine oQ_nil ?_) | (with_reducible refine oQ_of ⟨_, rfl⟩ (fun W0 hW0 => by (refine oM_gen (fun Kv hK => ?_)); simp [go_sem]; (first | exact hK _ _ ⟨rfl, rfl⟩ | exact ⟨by omega, hK _ _ ⟨rfl, rfl⟩⟩)) ?_)
    | (with_reducible refine gdtT ?_) | (with_reducible refine gdtF ?_) | (with_reducible refine gdfF ?_) | (with_reducible refine gdfT ?_) | (with_reducible refine gdu ?_ _)
    | (with_reducible refine gdt_pos (by first | assumption | omega) ?_) | (with_reducible refine gdt_neg (by first | assumption | omega) ?_) | (with_reducible refine gdt_split (fun hg => ?_) (fun hg => ?_))
    | (with_reducible refine gdf_pos (by first | assumption | omega) ?_) | (with_reducible refine gdf_neg (by first | assumption | omega) ?_) | (with_reducible refine gdf_split (fun hg => ?_) (fun hg => ?_))
    | (with_reducible refine gdtn_pos (by first | assumption | omega) ?_) | (with_reducible refine gdtn_neg (by first | assumption | omega) ?_) | (with_reducible refine gdtn_split (fun hg => ?_) (fun hg => ?_))
    | (with_reducible refine gdfn_pos (by first | assumption | omega) ?_) | (with_reducible refine gdfn_neg (by first | assumption | omega) ?_) | (with_reducible refine gdfn_split (fun hg => ?_) (fun hg => ?_))
    | (with_reducible refine gdtbn_pos (by assumption) ?_) | (with_reducible refine gdtbn_neg (by assumption) ?_) | (with_reducible refine gdfbn_pos (by assumption) ?_) | (with_reducible refine gdfbn_neg (by assumption) ?_)
    | (with_reducible refine gdtb_pos (by assumption) ?_) | (with_reducible refine gdtb_neg (by assumption) ?_) | (with_reducible refine gdtb_split (fun hg => ?_) (fun hg => ?_))
    | (with_reducible refine gdfb_pos (by assumption) ?_) | (with_reducible refine gdfb_neg (by assumption) ?_) | (with_reducible refine gdfb_split (fun hg => ?_) (fun hg => ?_))
    | (with_reducible refine pickT ?_) | (with_reducible refine pickF ?_)
    | (with_reducible refine pick_pos (by first | assumption | omega) ?_) | (with_reducible refine pick_neg (by first | assumption | omega) ?_)
    | (with_reducible refine pickn_pos (by first | assumption | omega) ?_) | (with_reducible refine pickn_neg (by first | assumption | omega) ?_)
    | (with_reducible refine pickbn_pos (by assumption) ?_) | (with_reducible refine pickbn_neg (by assumption) ?_)
    | (with_reducible refine pickb_pos (by assumption) ?_) | (with_reducible refine pickb_neg (by assumption) ?_)
    | (with_reducible refine condT ?_) | (with_reducible refine condF ?_)
    | (with_reducible refine cond_pos (by first | assumption | omega) ?_) | (with_reducible refine cond_neg (by first | assumption | omega) ?_) | (with_reducible refine condM_dec (fun hg => ?_) (fun hg => ?_))
    | (with_reducible refine condn_pos (by first | assumption | omega) ?_) | (with_reducible refine condn_neg (by first | assumption | omega) ?_) | (with_reducible refine condM_ndec (fun hg => ?_) (fun hg => ?_))
    | (with_reducible refine condbn_pos (by assumption) ?_) | (with_reducible refine condbn_neg (by assumption) ?_) | (with_reducible refine condbn_split (fun hg => ?_) (fun hg => ?_))
    | (with_reducible refine condb_pos (by assumption) ?_) | (with_reducible refine condb_neg (by assumption) ?_) | (with_reducible refine condM_b (fun hg => ?_) (fun hg => ?_))
    | ((with_reducible refine oM_gen (fun Kv hK => ?_)); simp [go_sem, hn]; (try simp (disch := omega) only [wrapI64, wrapU8, wrapU32, wrapU64]); (first | refine hK _ _ ?_ | refine And.intro (by omega) (hK _ _ ?_)); clear hK; clear Kv)))
    have pf : Fr (fun _ => False) w1 (w1.alloc (.map #[] 0)) := (Fr.refl _ _).alloc _
    have pm : MapIs secV (w1.alloc (.map #[] 0)) w1.heap.size [] := mapIs_new w1
    have pz := alloc_size w1 (.map #[] 0)
    have hz1 := f1.size
    have hb2 := (pf.block b (by omega) (fun h => h)).trans b1
    have m2 := m1.alloc (.map #[] 0)
    have f2 := f1.trans pf (fun _ h => h.elim)
    generalize w1.alloc (.map #[] 0) = w2 at *
    have y1 := frozen_of_block hb2 1
    have e1 := cell_of_block hb2 1
    have hb3 := block_set (i := 1) hb2 (.slice none 0 0)
    have y2 := frozen_of_block hb3 2
    have e2 := cell_of_block hb3 2
    have hb4 := block_set (i := 2) hb3 (.map (some w1.heap.size))
    simp [dkCells] at e1 e2
    repeat (any_goals (first
    | (with_reducible refine pureM_in ?_)
    | (with_reducible refine pureQ_in ?_) | (with_reducible refine gdQ_conv (fun _ => ?_)) | (with_reducible refine pickQT ?_) | (with_reducible refine pickQF ?_) | (with_reducible refine pickQ_pos (by first | assumption | omega) ?_) | (with_reducible refine pickQ_neg (by first | assumption | omega) ?_) | (with_reducible refine pickQn_pos (by first | assumption | omega) ?_) | (with_reducible refine pickQn_neg (by first | assumption | omega) ?_) | ((with_reducible refine oQ_one ?_ ?_); exact ⟨_, rfl⟩) | (with_reducible refine And.intro (Eq.refl (α := World) _) ?_) | (with_reducible refine forall_one ?_) | (with_reducible refine oQ_nil ?_) | (with_reducible refine oQ_of ⟨_, rfl⟩ (fun W0 hW0 => by (refine oM_gen (fun Kv hK => ?_)); simp [go_sem]; (first | exact hK _ _ ⟨rfl, rfl⟩ | exact ⟨by omega, hK _ _ ⟨rfl, rfl⟩⟩)) ?_)
    | (with_reducible refine gdtT ?_) | (with_reducible refine gdtF ?_) | (with_reducible refine gdfF ?_) | (with_reducible refine gdfT ?_) | (with_reducible refine gdu ?_ _)
    | (with_reducible refine gdt_pos (by first | assumption | omega) ?_) | (with_reducible refine gdt_neg (by first | assumption | omega) ?_) | (with_reducible refine gdt_split (fun hg => ?_) (fun hg => ?_))
    | (with_reducible refine gdf_pos (by first | assumption | omega) ?_) | (with_reducible refine gdf_neg (by first | assumption | omega) ?_) | (with_reducible refine gdf_split (fun hg => ?_) (fun hg => ?_))
    | (with_reducible refine gdtn_pos (by first | assumption | omega) ?_) | (with_reducible refine gdtn_neg (by first | assumption | omega) ?_) | (with_reducible refine gdtn_split (fun hg => ?_) (fun hg => ?_))
    | (with_reducible refine gdfn_pos (by first | assumption | omega) ?_) | (with_reducible refine gdfn_neg (by first | assumption | omega) ?_) | (with_reducible refine gdfn_split (fun hg => ?_) (fun hg => ?_))
    | (with_reducible refine gdtbn_pos (by assumption) ?_) | (with_reducible refine gdtbn_neg (by assumption) ?_) | (with_reducible refine gdfbn_pos (by assumption) ?_) | (with_reducible refine gdfbn_neg (by assumption) ?_)
    | (with_reducible refine gdtb_pos (by assumption) ?_) | (with_reducible refine gdtb_neg (by assumption) ?_) | (with_reducible refine gdtb_split (fun hg => ?_) (fun hg => ?_))
    | (with_reducible refine gdfb_pos (by assumption) ?_) | (with_reducible refine gdfb_neg (by assumption) ?_) | (with_reducible refine gdfb_split (fun hg => ?_) (fun hg => ?_))
    | (with_reducible refine pickT ?_) | (with_reducible refine pickF ?_)
    | (with_reducible refine pick_pos (by first | assumption | omega) ?_) | (with_reducible refine pick_neg (by first | assumption | omega) ?_)
    | (with_reducible refine pickn_pos (by first | assumption | omega) ?_) | (with_reducible refine pickn_neg (by first | assumption | omega) ?_)
    | (with_reducible refine pickbn_pos (by assumption) ?_) | (with_reducible refine pickbn_neg (by assumption) ?_)
    | (with_reducible refine pickb_pos (by assumption) ?_) | (with_reducible refine pickb_neg (by assumption) ?_)
    | (with_reducible refine condT ?_) | (with_reducible refine condF ?_)
    | (with_reducible refine cond_pos (by first | assumption | omega) ?_) | (with_reducible refine cond_neg (by first | assumption | omega) ?_) | (with_reducible refine condM_dec (fun hg => ?_) (fun hg => ?_))
    | (with_reducible refine condn_pos (by first | assumption | omega) ?_) | (with_reducible refine condn_neg (by first | assumption | omega) ?_) | (with_reducible refine condM_ndec (fun hg => ?_) (fun hg => ?_))
    | (with_reducible refine condbn_pos (by assumption) ?_) | (with_reducible refine condbn_neg (by assumption) ?_) | (with_reducible refine condbn_split (fun hg => ?_) (fun hg => ?_))
    | (with_reducible refine condb_pos (by assumption) ?_) | (with_reducible refine condb_neg (by assumption) ?_) | (with_reducible refine condM_b (fun hg => ?_) (fun hg => ?_))
    | ((with_reducible refine oM_gen (fun Kv hK => ?_)); simp [go_sem, y1, e1, y2, e2]; (try simp (disch := omega) only [wrapI64, wrapU8, wrapU32, wrapU64]); (first | refine hK _ _ ?_ | refine And.intro (by omega) (hK _ _ ?_)); clear hK; clear Kv)))
    have f4 := (f2.mono (S' := Own b h) (fun i _ hi => .inr (.inl hi))).set ⟨b, 1, none⟩ (.slice none 0 0) (.inl (.inl rfl)) |>.set ⟨b, 2, none⟩ (.map (some w1.heap.size)) (.inl (.inl rfl))
    have k4 : ∀ i, i ≠ b → ((w2.setCell ⟨b, 1, none⟩ (.slice none 0 0)).setCell ⟨b, 2, none⟩ (.map (some w1.heap.size))).heap[i]? = w2.heap[i]? := fun i hi => by rw [setCell_heap_ne _ _ _ _ hi, setCell_heap_ne _ _ _ _ hi]
    generalize (w2.setCell ⟨b, 1, none⟩ (.slice none 0 0)).setCell ⟨b, 2, none⟩ (.map (some w1.heap.size)) = w4 at *
    have hfne : h.fm ≠ w1.heap.size := by omega
    refine k w4 { h with q := .slice none 0 0, sm := w1.heap.size } ⟨?_, ⟨_, m2.of_block (k4 _ d.bfm.symm), hF⟩, ⟨[], pm.of_block (k4 _ (by omega)), fun p => by simp [lookA_nil]⟩, ?_, ?_, hfne, ?_⟩ ⟨f4, ?_, fun i hi => .inl hi⟩
    · rw [hb4]; rfl
    · exact World.ownsRow_nil _ _ _ _
    · refine owns_keep d.kep (fun i hi => ?_)
      have h1 := d.kne hi
      have h2 := d.lt (.inr hi)
      rw [k4 i h1.1]
      exact f2.block i h2 h1.2.1
    · exact ⟨d.wf.l0, d.wf.l1, d.wf.a0, d.wf.a1, List.nodup_nil, fun p hp => absurd hp (by simp), fun f => ⟨(d.wf.sz f).2, (d.wf.sz f).2⟩, d.wf.kr, d.wf.kl⟩
    · rintro i (rfl | rfl | rfl | hi)
      · exact .inl (.inl rfl)
      · exact .inl (.inr (.inl rfl))
      · exact .inr hz1
      · cases hi
  · have he := run_entry (P := Try.prog) R2 hy
    have f2 : Fr (fun i => i = h.fm) w w2 := f1.by g2 (fun i hi => by cases hi; exact .inr (Nat.le_refl _))
    have hyk : y.1 ∈ l0.map (·.1) := by
      have := List.mem_map_of_mem (f := (·.1)) hy
      rw [durL_keys] at this
      exact this
    have hyv : y.2 = flV (A.F y.1) := by
      have h1 := lookA_mem (durL A.F l0 done) (by rw [durL_keys]; exact hnd0) y hy
      rw [durL_look] at h1
      have h2 := hl0 y.1
      cases hlk : lookA l0 y.1 with
      | none => rw [hlk] at h1; cases h1
      | some v =>
        rw [hlk] at h1 h2
        simp only [Option.map_some, if_neg hyd, Option.some.injEq] at h1
        simp only [Option.getD_some] at h2
        rw [← h1, h2]
    rw [hyv] at he
    simp only [i64V] at hn he
    repeat (any_goals (first
    | (with_reducible refine pureM_in ?_)
    | (with_reducible refine pureQ_in ?_) | (with_reducible refine gdQ_conv (fun _ => ?_)) | (with_reducible refine pickQT ?_) | (with_reducible refine pickQF ?_) | (with_reducible refine pickQ_pos (by first | assumption | omega) ?_) | (with_reducible refine pickQ_neg (by first | assumption | omega) ?_) | (with_reducible refine pickQn_pos (by first | assumption | omega) ?_) | (with_reducible refine pickQn_neg (by first | assumption | omega) ?_) | ((with_reducible refine oQ_one ?_ ?_); exact ⟨_, rfl⟩) | (with_reducible refine And.intro (Eq.refl (α := World) _) ?_) | (with_reducible refine forall_one ?_) | (with_reducible refine oQ_nil ?_) | (with_reducible refine oQ_of ⟨_, rfl⟩ (fun W0 hW0 => by (refine oM_gen (fun Kv hK => ?_)); simp [go_sem]; (first | exact hK _ _ ⟨rfl, rfl⟩ | exact ⟨by omega, hK _ _ ⟨rfl, rfl⟩⟩)) ?_)
    | (with_reducible refine gdtT ?_) | (with_reducible refine gdtF ?_) | (with_reducible refine gdfF ?_) | (with_reducible refine gdfT ?_) | (with_reducible refine gdu ?_ _)
    | (with_reducible refine gdt_pos (by first | assumption | omega) ?_) | (with_reducible refine gdt_neg (by first | assumption | omega) ?_) | (with_reducible refine gdt_split (fun hg => ?_) (fun hg => ?_))
    | (with_reducible refine gdf_pos (by first | assumption | omega) ?_) | (with_reducible refine gdf_neg (by first | assumption | omega) ?_) | (with_reducible refine gdf_split (fun hg => ?_) (fun hg => ?_))
    | (with_reducible refine gdtn_pos (by first | assumption | omega) ?_) | (with_reducible refine gdtn_neg (by first | assumption | omega) ?_) | (with_reducible refine gdtn_split (fun hg => ?_) (fun hg => ?_))
    | (with_reducible refine gdfn_pos (by first | assumption | omega) ?_) | (with_reducible refine gdfn_neg (by first | assumption | omega) ?_) | (with_reducible refine gdfn_split (fun hg => ?_) (fun hg => ?_))
    | (with_reducible refine gdtbn_pos (by assumption) ?_) | (with_reducible refine gdtbn_neg (by assumption) ?_) | (with_reducible refine gdfbn_pos (by assumption) ?_) | (with_reducible refine gdfbn_neg (by assumption) ?_)
    | (with_reducible refine gdtb_pos (by assumption) ?_) | (with_reducible refine gdtb_neg (by assumption) ?_) | (with_reducible refine gdtb_split (fun hg => ?_) (fun hg => ?_))
    | (with_reducible refine gdfb_pos (by assumption) ?_) | (with_reducible refine gdfb_neg (by assumption) ?_) | (with_reducible refine gdfb_split (fun hg => ?_) (fun hg => ?_))
    | (with_reducible refine pickT ?_) | (with_reducible refine pickF ?_)
    | (with_reducible refine pick_pos (by first | assumption | omega) ?_) | (with_reducible refine pick_neg (by first | assumption | omega) ?_)
    | (with_reducible refine pickn_pos (by first | assumption | omega) ?_) | (with_reducible refine pickn_neg (by first | assumption | omega) ?_)
    | (with_reducible refine pickbn_pos (by assumption) ?_) | (with_reducible refine pickbn_neg (by assumption) ?_)
    | (with_reducible refine pickb_pos (by assumption) ?_) | (with_reducible refine pickb_neg (by assumption) ?_)
    | (with_reducible refine condT ?_) | (with_reducible refine condF ?_)
    | (with_reducible refine cond_pos (by first | assumption | omega) ?_) | (with_reducible refine cond_neg (by first | assumption | omega) ?_) | (with_reducible refine condM_dec (fun hg => ?_) (fun hg => ?_))
    | (with_reducible refine condn_pos (by first | assumption | omega) ?_) | (with_reducible refine condn_neg (by first | assumption | omega) ?_) | (with_reducible refine condM_ndec (fun hg => ?_) (fun hg => ?_))
    | (with_reducible refine condbn_pos (by assumption) ?_) | (with_reducible refine condbn_neg (by assumption) ?_) | (with_reducible refine condbn_split (fun hg => ?_) (fun hg => ?_))
    | (with_reducible refine condb_pos (by assumption) ?_) | (with_reducible refine condb_neg (by assumption) ?_) | (with_reducible refine condM_b (fun hg => ?_) (fun hg => ?_))
    | ((with_reducible refine oM_gen (fun Kv hK => ?_)); simp [go_sem, hn, he]; (try simp (disch := omega) only [wrapI64, wrapU8, wrapU32, wrapU64]); (first | refine hK _ _ ?_ | refine And.intro (by omega) (hK _ _ ?_)); clear hK; clear Kv)))
    have pf : Fr (fun _ => False) w2 (w2.alloc (.cells #[.string ⟨#[]⟩, .string ⟨#[]⟩] 62 (0, 0))) := (Fr.refl _ _).alloc _
    have p0 := heap_alloc_new w2 (.cells #[.string ⟨#[]⟩, .string ⟨#[]⟩] 62 (0, 0))
    have pz := alloc_size w2 (.cells #[.string ⟨#[]⟩, .string ⟨#[]⟩] 62 (0, 0))
    generalize w2.alloc (.cells #[.string ⟨#[]⟩, .string ⟨#[]⟩] 62 (0, 0)) = w3 at *
    refine store2_at (fun w => by kernel_rfl) rfl rfl p0 (by simp) (fun w4 cur4 g4 n4 s4 _ a4 b4 => ?_)
    have f24 : Fr (fun _ => False) w2 w4 := pf.by g4 (fun i hi => by cases hi; exact .inr (Nat.le_refl _))
    have R4 := R2.of_blocks (f24.block h.fm R2.lt.1 (fun h => h)) (f24.block w.heap.size R2.lt.2.1 (fun h => h))
    have fr4 : Fr (fun i => i = h.fm) w w4 := f2.trans f24 (fun _ h => h.elim)
    have b4' : w4.heap[b]? = some (.cells (dkCells A h) 54 (0, 0)) := (fr4.block b hbl d.bfm).trans d.blk
    have e0 := cell_of_block b4' 0
    simp only [dkCells] at e0
    have z0 := cell_of_block n4 1
    rw [Nat.zero_add] at b4
    rw [b4] at z0
    refine ⟨fun sg w' => sg ≤ 1 → w'.heap = w4.heap, fun _ => rfl, ?_⟩
    repeat (first | (with_reducible refine pureH_in ?_) | (with_reducible refine oH_nil ?_) | (with_reducible refine gdH_true rfl ?_) | (with_reducible refine gdH_false rfl ?_) | (refine oH_of ⟨_, rfl⟩ (fun W0 hW0 => by (obtain ⟨s0, hs0, hC⟩ := hW0); (refine oM_gen (fun Kv hK => ?_)); simp [go_sem, cell_heap (hC (by omega)), e0, z0]; (first | exact hK _ _ ⟨rfl, rfl⟩ | exact ⟨by omega, hK _ _ ⟨rfl, rfl⟩⟩)) ?_))
    generalize hw5 : ({ w4 with drawn := w4.drawn + 1 } : World) = w5
    have hh5 : w5.heap = w4.heap := by rw [← hw5]
    have f5 : Fr (fun i => i = h.fm) w w5 := by rw [← hw5]; exact fr4.drew
    have R5 := R4.of_blocks (w' := w5) (by rw [hh5]) (by rw [hh5])
    clear hw5
    obtain ⟨w6, hu, R6, g6, z6⟩ := run_updateR (P := Try.prog) (t := 50) (et := 62) keyI (by kernel_rfl) R5 y.1 (flV ((A.F y.1).2, (A.F y.1).2)) (by rw [durL_keys]; exact hyk)
    rw [durL_put _ _ _ _ hyk] at R6
    simp only [i64V, flV, bsV] at hu
    repeat (any_goals (first
    | (with_reducible refine pureM_in ?_)
    | (with_reducible refine pureQ_in ?_) | (with_reducible refine gdQ_conv (fun _ => ?_)) | (with_reducible refine pickQT ?_) | (with_reducible refine pickQF ?_) | (with_reducible refine pickQ_pos (by first | assumption | omega) ?_) | (with_reducible refine pickQ_neg (by first | assumption | omega) ?_) | (with_reducible refine pickQn_pos (by first | assumption | omega) ?_) | (with_reducible refine pickQn_neg (by first | assumption | omega) ?_) | ((with_reducible refine oQ_one ?_ ?_); exact ⟨_, rfl⟩) | (with_reducible refine And.intro (Eq.refl (α := World) _) ?_) | (with_reducible refine forall_one ?_) | (with_reducible refine oQ_nil ?_) | (with_reducible refine oQ_of ⟨_, rfl⟩ (fun W0 hW0 => by (refine oM_gen (fun Kv hK => ?_)); simp [go_sem]; (first | exact hK _ _ ⟨rfl, rfl⟩ | exact ⟨by omega, hK _ _ ⟨rfl, rfl⟩⟩)) ?_)
    | (with_reducible refine And.intro (fun _ => hh5) ?_) | (with_reducible refine And.intro (fun hs => absurd hs (by decide)) ?_)
    | (with_reducible refine gdtT ?_) | (with_reducible refine gdtF ?_) | (with_reducible refine gdfF ?_) | (with_reducible refine gdfT ?_) | (with_reducible refine gdu ?_ _)
    | (with_reducible refine gdt_pos (by first | assumption | omega) ?_) | (with_reducible refine gdt_neg (by first | assumption | omega) ?_) | (with_reducible refine gdt_split (fun hg => ?_) (fun hg => ?_))
    | (with_reducible refine gdf_pos (by first | assumption | omega) ?_) | (with_reducible refine gdf_neg (by first | assumption | omega) ?_) | (with_reducible refine gdf_split (fun hg => ?_) (fun hg => ?_))
    | (with_reducible refine gdtn_pos (by first | assumption | omega) ?_) | (with_reducible refine gdtn_neg (by first | assumption | omega) ?_) | (with_reducible refine gdtn_split (fun hg => ?_) (fun hg => ?_))
    | (with_reducible refine gdfn_pos (by first | assumption | omega) ?_) | (with_reducible refine gdfn_neg (by first | assumption | omega) ?_) | (with_reducible refine gdfn_split (fun hg => ?_) (fun hg => ?_))
    | (with_reducible refine gdtbn_pos (by assumption) ?_) | (with_reducible refine gdtbn_neg (by assumption) ?_) | (with_reducible refine gdfbn_pos (by assumption) ?_) | (with_reducible refine gdfbn_neg (by assumption) ?_)
    | (with_reducible refine gdtb_pos (by assumption) ?_) | (with_reducible refine gdtb_neg (by assumption) ?_) | (with_reducible refine gdtb_split (fun hg => ?_) (fun hg => ?_))
    | (with_reducible refine gdfb_pos (by assumption) ?_) | (with_reducible refine gdfb_neg (by assumption) ?_) | (with_reducible refine gdfb_split (fun hg => ?_) (fun hg => ?_))
    | (with_reducible refine pickT ?_) | (with_reducible refine pickF ?_)
    | (with_reducible refine pick_pos (by first | assumption | omega) ?_) | (with_reducible refine pick_neg (by first | assumption | omega) ?_)
    | (with_reducible refine pickn_pos (by first | assumption | omega) ?_) | (with_reducible refine pickn_neg (by first | assumption | omega) ?_)
    | (with_reducible refine pickbn_pos (by assumption) ?_) | (with_reducible refine pickbn_neg (by assumption) ?_)
    | (with_reducible refine pickb_pos (by assumption) ?_) | (with_reducible refine pickb_neg (by assumption) ?_)
    | (with_reducible refine condT ?_) | (with_reducible refine condF ?_)
    | (with_reducible refine cond_pos (by first | assumption | omega) ?_) | (with_reducible refine cond_neg (by first | assumption | omega) ?_) | (with_reducible refine condM_dec (fun hg => ?_) (fun hg => ?_))
    | (with_reducible refine condn_pos (by first | assumption | omega) ?_) | (with_reducible refine condn_neg (by first | assumption | omega) ?_) | (with_reducible refine condM_ndec (fun hg => ?_) (fun hg => ?_))
    | (with_reducible refine condbn_pos (by assumption) ?_) | (with_reducible refine condbn_neg (by assumption) ?_) | (with_reducible refine condbn_split (fun hg => ?_) (fun hg => ?_))
    | (with_reducible refine condb_pos (by assumption) ?_) | (with_reducible refine condb_neg (by assumption) ?_) | (with_reducible refine condM_b (fun hg => ?_) (fun hg => ?_))
    | ((with_reducible refine oM_gen (fun Kv hK => ?_)); simp [go_sem, hu]; (try simp (disch := omega) only [wrapI64, wrapU8, wrapU32, wrapU64]); (first | refine hK _ _ ?_ | refine And.intro (by omega) (hK _ _ ?_)); clear hK; clear Kv)))
    refine ⟨⟨_, y.1 :: done, rfl, List.nodup_cons.2 ⟨hyd, hnd⟩, R6, f5.by g6 (fun i hi => by cases hi; exact .inl rfl)⟩, ?_⟩
    have h6 := R6.seen
    have h7 := nodup_sub_len (y.1 :: done) _ (List.nodup_cons.2 ⟨hyd, hnd⟩) R6.sub
    simp only [List.length_cons] at h6 h7
    show _ - _ < _ - _
    omega
end
end Go.Proofs
