/- Parts of the proof of the seat's statements (JdkI0, JdkI1, JdkJ, JC, JD, JE, JF, JG, JnSane, JH, JI, JnUp, JT1, JT2, JT2b, JTt, JT4, JL, HJl, JM1, JM2, JM3, JM4, ShApp, JM5, JM6, JM7): lemmas about the given translation and plain laws. No condition of their own. -/
import Derived.Test.YtefjibjojkjiiaaDoorLsc
import Derived.Laws.CopyRow
import Derived.Laws.IdiomCopy
import Derived.KernelRfl
import Derived.Test.YtefjibjojkjiiaaDoorProg
import Derived.Deep.MidRow
import Derived.Deep.Upon
set_option linter.all false
namespace Go.Proofs
open Go Go.Sh Go.RowKit DkSpec
set_option linter.unusedSimpArgs false
set_option linter.unusedVariables false
set_option maxRecDepth 10000
attribute [local go_sem] oM_indexAddr
def crTail (a0 v5_20 v6_32 v39_31 x : Value) (M_16 : List Value → World → Prop) (w : World) : Prop :=
 (stageM w (fun C_52 w => (oH Tryd.prog (Go.Op.fieldAddr 100 (.tmp 0) 1) 0 [v6_32] (upto C_52 0) (fun v61_53 =>
 oH Tryd.prog (Go.Op.load 9 (.tmp 0)) 9 [v61_53] (upto C_52 0) (fun v62_54 =>
 pureH v39_31 (upto C_52 0) (fun v63_55 =>
 oH Tryd.prog (Go.Op.fieldAddr 100 (.tmp 0) 0) 0 [v6_32] (upto C_52 0) (fun v64_56 =>
 oH Tryd.prog (Go.Op.load 9 (.tmp 0)) 9 [v64_56] (upto C_52 0) (fun v65_57 =>
 pureH v39_31 (upto C_52 0) (fun v66_58 =>
 pureH v39_31 (upto C_52 0) (fun v67_59 =>
 oH Tryd.prog (Go.Op.binOp Go.BinOp.add 3 (.tmp 0) (.tmp 1) 3) 3 [v67_59, (.int .i64 64)] (upto C_52 0) (fun v68_60 =>
 oH Tryd.prog (Go.Op.fieldAddr 100 (.tmp 0) 0) 0 [v6_32] (upto C_52 0) (fun v69_61 =>
 oH Tryd.prog (Go.Op.load 9 (.tmp 0)) 9 [v69_61] (upto C_52 0) (fun v70_62 =>
 oH Tryd.prog (Go.Op.call (Go.Call.mk (Go.Callee.builtin Go.Builtin.len) #[(.tmp 0)] #[9])) 3 [v70_62] (upto C_52 0) (fun v71_63 =>
 oH Tryd.prog (Go.Op.call (Go.Call.mk (Go.Callee.builtin Go.Builtin.min) #[(.tmp 0), (.tmp 1)] #[3, 3])) 3 [v68_60, v71_63] (upto C_52 0) (fun v72_64 =>
 oH Tryd.prog (Go.Op.slice 9 (.tmp 0) (some (.tmp 1)) (some (.tmp 2)) none) 9 [v65_57, v66_58, v72_64] (upto C_52 0) (fun v73_65 =>
 callM Tryd.prog 88 #[v62_54, v63_55, v73_65] (fun v74_66 w => C_52 1 w ∧ (
 oM Tryd.prog (Go.Op.fieldAddr 100 (.tmp 0) 1) 0 [v6_32] (fun v75_67 w => C_52 2 w ∧ (
 oM Tryd.prog (Go.Op.store 9 (.tmp 0) (.tmp 1)) 0 [v75_67, v74_66] (fun _ w => C_52 3 w ∧ (
 stageM w (fun C_68 w => (pureH a0 (upto C_68 0) (fun v76_69 =>
 oH Tryd.prog (Go.Op.nilCheck (.tmp 0)) 0 [v76_69] (upto C_68 0) (fun v77_70 =>
 oH Tryd.prog (Go.Op.fieldAddr 92 (.tmp 0) 0) 0 [v77_70] (upto C_68 0) (fun v78_71 =>
 oH Tryd.prog (Go.Op.load 88 (.tmp 0)) 88 [v78_71] (upto C_68 0) (fun v79_72 =>
 oH Tryd.prog (Go.Op.fieldAddr 103 (.tmp 0) 0) 0 [v5_20] (upto C_68 0) (fun v80_73 =>
 oH Tryd.prog (Go.Op.load 3 (.tmp 0)) 3 [v80_73] (upto C_68 0) (fun v81_74 =>
 oH Tryd.prog (Go.Op.load 100 (.tmp 0)) 100 [v6_32] (upto C_68 0) (fun v82_75 =>
 oM Tryd.prog (Go.Op.mapUpdate 88 (.tmp 0) (.tmp 1) (.tmp 2)) 0 [v79_72, v81_74, v82_75] (fun _ w => C_68 1 w ∧ (
 M_16 [x, v39_31] w)) w))))))))))) w)) w)) w))))))))))))))))
def crEnd (a0 : Value) (K : Value → World → Prop) (w : World) : Prop :=
 (oM Tryd.prog (Go.Op.nilCheck (.tmp 0)) 0 [a0] (fun v85_77 w =>
 oM Tryd.prog (Go.Op.fieldAddr 92 (.tmp 0) 0) 0 [v85_77] (fun v86_78 w =>
 oM Tryd.prog (Go.Op.load 88 (.tmp 0)) 88 [v86_78] (fun v87_79 w =>
 oM Tryd.prog (Go.Op.range 88 (.tmp 0)) 0 [v87_79] (fun v88_80 w =>
 loopM [undef] w (fun J_81 m_82 l_83 u_l_83 w0_l_83 => (fun w => (
 oM Tryd.prog (Go.Op.next (.tmp 0) false) 0 [v88_80] (fun v89_84 w =>
 oM Tryd.prog (Go.Op.extract (.tmp 0) 0) 4 [v89_84] (fun v90_85 w =>
 condM v90_85
 (oM Tryd.prog (Go.Op.entry (.tmp 0)) 0 [v88_80] (fun v91_86 w =>
 oM Tryd.prog (Go.Op.extract (.tmp 0) 0) 3 [v91_86] (fun v92_87 w =>
 oM Tryd.prog (Go.Op.extract (.tmp 0) 1) 100 [v91_86] (fun v93_88 w =>
 oM Tryd.prog (Go.Op.alloc 100) 0 [] (fun v9_89 w =>
 oM Tryd.prog (Go.Op.store 100 (.tmp 0) (.tmp 1)) 0 [v9_89, v93_88] (fun _ w =>
 stageM w (fun C_90 w => (pureH a0 (upto C_90 1) (fun v94_91 =>
 oH Tryd.prog (Go.Op.nilCheck (.tmp 0)) 0 [v94_91] (upto C_90 1) (fun v95_92 =>
 oH Tryd.prog (Go.Op.fieldAddr 92 (.tmp 0) 0) 0 [v95_92] (upto C_90 1) (fun v96_93 =>
 oH Tryd.prog (Go.Op.load 88 (.tmp 0)) 88 [v96_93] (upto C_90 1) (fun v97_94 =>
 pureH v92_87 (upto C_90 1) (fun v98_95 =>
 oH Tryd.prog (Go.Op.fieldAddr 100 (.tmp 0) 1) 0 [v9_89] (upto C_90 0) (fun v99_96 =>
 oH Tryd.prog (Go.Op.load 9 (.tmp 0)) 9 [v99_96] (upto C_90 0) (fun v100_97 =>
 oH Tryd.prog (Go.Op.fieldAddr 100 (.tmp 0) 1) 0 [v9_89] (upto C_90 0) (fun v101_98 =>
 oH Tryd.prog (Go.Op.load 9 (.tmp 0)) 9 [v101_98] (upto C_90 0) (fun v102_99 =>
 oM Tryd.prog (Go.Op.build 100 #[(0, (.tmp 0)), (1, (.tmp 1))]) 100 [v100_97, v102_99] (fun v103_100 w => C_90 1 w ∧ (
 oM Tryd.prog (Go.Op.mapUpdate 88 (.tmp 0) (.tmp 1) (.tmp 2)) 0 [v97_94, v98_95, v103_100] (fun _ w => C_90 2 w ∧ (
 J_81 [v92_87] w ∧ m_82 [v92_87] w < m_82 l_83 w0_l_83)) w)) w)))))))))))) w) w) w) w) w)
 (oM Tryd.prog (Go.Op.makeMap 89 none) 89 [] (fun v106_101 w =>
 oM Tryd.prog (Go.Op.nilCheck (.tmp 0)) 0 [a0] (fun v107_102 w =>
 oM Tryd.prog (Go.Op.fieldAddr 92 (.tmp 0) 1) 0 [v107_102] (fun v108_103 w =>
 oM Tryd.prog (Go.Op.store 90 (.tmp 0) (.tmp 1)) 0 [v108_103, (.slice none 0 0)] (fun _ w =>
 oM Tryd.prog (Go.Op.nilCheck (.tmp 0)) 0 [a0] (fun v109_104 w =>
 oM Tryd.prog (Go.Op.fieldAddr 92 (.tmp 0) 2) 0 [v109_104] (fun v110_105 w =>
 oM Tryd.prog (Go.Op.store 89 (.tmp 0) (.tmp 1)) 0 [v110_105, v106_101] (fun _ w =>
 K (.tuple #[]) w) w) w) w) w) w) w) w)) w) w)) w0_l_83)) w) w) w) w)
section
variable {w : World} {b : Nat} {A : Ab} {h : Dk} {K : Value → World → Prop}
set_option maxHeartbeats 1000000 in
theorem crTail_ok {n m : Nat} {p : Int × Int} {x : Value} {M : List Value → World → Prop} (d : IsDk w b A h) (hp : w.heap[n]? = some (.cells #[.int .i64 p.1, .int .i64 p.2] 103 (0, 0))) {cur : Array Value} (hm : w.heap[m]? = some (.cells cur 100 (0, 0))) (hc0 : cur[0]? = some (bsV (A.F p.1).1)) (hc1 : cur[1]? = some (bsV (A.F p.1).2)) (hs : cur.size = 2)
    (hn : ¬ Own b h n) (hm' : ¬ Own b h m) (hm2 : ¬ Rdb h m) (hnm : n ≠ m) (h0 : 0 ≤ p.2 ∧ p.2 < 262144) (hbig : 64 * p.2 < ((A.F p.1).1.length : Int))
    (k : ∀ w', IsDk w' b { A with F := setF A.F p.1 ((A.F p.1).1, putB (A.F p.1).2 (64 * p.2).toNat (DkSpec.sector (A.F p.1).1 p.2)) } h → Fr (fun i => Own b h i ∨ i = m) w w' → M [x, .int .i64 (64 * p.2)] w') : crTail (dkP b) (.pointer (some ⟨n, 0, none⟩)) (.pointer (some ⟨m, 0, none⟩)) (.int .i64 (64 * p.2)) x M w := by
  unfold crTail
  have z0 := cell_of_block hm 0
  have z1 := cell_of_block hm 1
  have hsz := d.wf.sz p.1
  obtain ⟨now, hnow⟩ : ∃ now, now = (A.F p.1).1 := ⟨_, rfl⟩
  obtain ⟨last, hlast⟩ : ∃ last, last = (A.F p.1).2 := ⟨_, rfl⟩
  rw [← hnow, ← hlast] at hsz
  rw [← hnow] at hc0 hbig
  rw [← hlast] at hc1
  rw [hc0] at z0
  rw [hc1] at z1
  obtain ⟨a, ha⟩ : ∃ a : Nat, (a : Int) = 64 * p.2 := ⟨(64 * p.2).toNat, by omega⟩
  have hmin : min ((a : Int) + 64) (now.length : Int) = ((min (a + 64) now.length : Nat) : Int) := by omega
  rw [← ha] at hbig ⊢
  refine ⟨fun sg w' => sg ≤ 0 → w'.heap = w.heap, fun _ => rfl, ?_⟩
  have hwr : IntKind.i64.wrap ((a : Int) + 64) = (a : Int) + 64 := wrapI64 _ (by omega) (by omega)
  repeat (first | (with_reducible refine pureH_in ?_) | (with_reducible refine oH_nil ?_) | (with_reducible refine gdH_true rfl ?_) | (with_reducible refine gdH_false rfl ?_) | (refine oH_of ⟨_, rfl⟩ (fun W0 hW0 => by (obtain ⟨s0, hs0, hC⟩ := hW0); (refine oM_gen (fun Kv hK => ?_)); simp [go_sem, cell_heap (hC (by omega)), z0, z1, hwr, hmin, ba_ext]; (first | exact hK _ _ ⟨rfl, rfl⟩ | exact ⟨by omega, hK _ _ ⟨rfl, rfl⟩⟩)) ?_))
  have hsec : (now.drop a).take (min (a + 64) now.length - a) = DkSpec.sector now p.2 := by
    unfold DkSpec.sector
    rw [← ha, Int.toNat_natCast, List.take_eq_take_iff, List.length_drop]
    omega
  simp only [bsV, Int.toNat_natCast]
  rw [hsec]
  generalize hw2 : ({ w with drawn := w.drawn + 1 } : World) = w2
  have hh : w2.heap = w.heap := by rw [← hw2]
  have f2 : Fr (fun _ => False) w w2 := by rw [← hw2]; exact (Fr.refl _ _).drew
  clear hw2
  have hsl : (DkSpec.sector now p.2).length ≤ 64 := by unfold DkSpec.sector; simp; omega
  refine put_ok' last (DkSpec.sector now p.2) (a : Int) (by omega) (by have := hsl; unfold DkSpec.sector at *; simp at *; omega) hsz.2 (fun w3 f3 => ⟨fun hs => absurd hs (by decide), ?_⟩)
  have f03 := f2.trans f3 (fun _ h => h.elim)
  have d3 := d.fresh f03
  have hml := (Array.getElem?_eq_some_iff.1 hm).1
  have hpl := (Array.getElem?_eq_some_iff.1 hp).1
  have hm3 := (f03.block m hml (fun h => h)).trans hm
  have hp3 := (f03.block n hpl (fun h => h)).trans hp
  have y1 := frozen_of_block hm3 1
  have q1 := cell_of_block hm3 1
  rw [hc1] at q1
  have hm4 := block_set (i := 1) hm3 (bsV (putB last a (DkSpec.sector now p.2)))
  have hp4 := (setCell_heap_ne w3 ⟨m, 1, none⟩ (bsV (putB last a (DkSpec.sector now p.2))) n hnm).trans hp3
  have d4 : IsDk (w3.setCell ⟨m, 1, none⟩ (bsV (putB last a (DkSpec.sector now p.2)))) b A h := d3.keep (fun i hi => setCell_heap_ne _ _ _ _ (fun e => by subst e; exact hi.elim hm' hm2))
  rw [Int.toNat_natCast]
  repeat (any_goals (first
  | (with_reducible refine pureM_in ?_)
  | (with_reducible first|refine pureQ_in ?_|refine gdQ_conv (fun _ => ?_)|refine pickQT ?_|refine pickQF ?_|refine pickQ_pos (by first|assumption|omega) ?_|refine pickQ_neg (by first|assumption|omega) ?_|refine pickQn_pos (by first|assumption|omega) ?_|refine pickQn_neg (by first|assumption|omega) ?_) | ((with_reducible refine oQ_one ?_ ?_); exact ⟨_, rfl⟩) | (with_reducible first|refine And.intro (Eq.refl (α := World) _) ?_|refine forall_one ?_|refine oQ_nil ?_) | (with_reducible refine oQ_of ⟨_, rfl⟩ (fun W0 hW0 => by (refine oM_gen (fun Kv hK => ?_)); simp [go_sem]; (first | exact hK _ _ ⟨rfl, rfl⟩ | exact ⟨by omega, hK _ _ ⟨rfl, rfl⟩⟩)) ?_)
  | (with_reducible refine And.intro (fun hs => absurd hs (by decide)) ?_)
  | (with_reducible first|refine gdtT ?_|refine gdtF ?_|refine gdfF ?_|refine gdfT ?_|refine gdu ?_ _|refine gdt_pos (by first|assumption|omega) ?_|refine gdt_neg (by first|assumption|omega) ?_|refine gdt_split (fun hg => ?_) (fun hg => ?_)|refine gdf_pos (by first|assumption|omega) ?_|refine gdf_neg (by first|assumption|omega) ?_|refine gdf_split (fun hg => ?_) (fun hg => ?_)|refine gdtn_pos (by first|assumption|omega) ?_|refine gdtn_neg (by first|assumption|omega) ?_|refine gdtn_split (fun hg => ?_) (fun hg => ?_)|refine gdfn_pos (by first|assumption|omega) ?_|refine gdfn_neg (by first|assumption|omega) ?_|refine gdfn_split (fun hg => ?_) (fun hg => ?_)|refine gdtbn_pos (by assumption) ?_|refine gdtbn_neg (by assumption) ?_|refine gdfbn_pos (by assumption) ?_|refine gdfbn_neg (by assumption) ?_|refine gdtb_pos (by assumption) ?_|refine gdtb_neg (by assumption) ?_|refine gdtb_split (fun hg => ?_) (fun hg => ?_)|refine gdfb_pos (by assumption) ?_|refine gdfb_neg (by assumption) ?_|refine gdfb_split (fun hg => ?_) (fun hg => ?_)|refine pickT ?_|refine pickF ?_|refine pick_pos (by first|assumption|omega) ?_|refine pick_neg (by first|assumption|omega) ?_|refine pickn_pos (by first|assumption|omega) ?_|refine pickn_neg (by first|assumption|omega) ?_|refine pickbn_pos (by assumption) ?_|refine pickbn_neg (by assumption) ?_|refine pickb_pos (by assumption) ?_|refine pickb_neg (by assumption) ?_|refine condT ?_|refine condF ?_|refine cond_pos (by first|assumption|omega) ?_|refine cond_neg (by first|assumption|omega) ?_|refine condM_dec (fun hg => ?_) (fun hg => ?_)|refine condn_pos (by first|assumption|omega) ?_|refine condn_neg (by first|assumption|omega) ?_|refine condM_ndec (fun hg => ?_) (fun hg => ?_)|refine condbn_pos (by assumption) ?_|refine condbn_neg (by assumption) ?_|refine condbn_split (fun hg => ?_) (fun hg => ?_)|refine condb_pos (by assumption) ?_|refine condb_neg (by assumption) ?_|refine condM_b (fun hg => ?_) (fun hg => ?_))
  | ((with_reducible refine oM_gen (fun Kv hK => ?_)); simp [go_sem, y1, q1]; (try simp (disch := omega) only [wrapI64, wrapU8, wrapU32, wrapU64]); (first | refine hK _ _ ?_ | refine And.intro (by omega) (hK _ _ ?_)); clear hK; clear Kv)))
  have f04 : Fr (fun i => Own b h i ∨ i = m) w (w3.setCell ⟨m, 1, none⟩ (bsV (putB last a (DkSpec.sector now p.2)))) := (f03.mono (fun i _ hi => hi.elim)).set ⟨m, 1, none⟩ _ (.inl (.inr rfl))
  generalize w3.setCell ⟨m, 1, none⟩ (bsV (putB last a (DkSpec.sector now p.2))) = w4 at *
  have c0 := d4.c 0
  simp only [dkCells] at c0
  have e0 := cell_of_block hm4 0
  have e1 := cell_of_block hm4 1
  have g0 := cell_of_block hp4 0
  simp at g0
  have h1lt : 1 < cur.size := by omega
  rw [Array.getElem?_setIfInBounds_ne (by omega), hc0] at e0
  rw [Array.getElem?_setIfInBounds_self_of_lt h1lt] at e1
  refine ⟨fun sg w' => sg ≤ 0 → w'.heap = w4.heap, fun _ => rfl, ?_⟩
  repeat (first | (with_reducible refine pureH_in ?_) | (with_reducible refine oH_nil ?_) | (with_reducible refine gdH_true rfl ?_) | (with_reducible refine gdH_false rfl ?_) | (refine oH_of ⟨_, rfl⟩ (fun W0 hW0 => by (obtain ⟨s0, hs0, hC⟩ := hW0); (refine oM_gen (fun Kv hK => ?_)); simp [go_sem, cell_heap (hC (by omega)), c0, e0, e1, g0]; (first | exact hK _ _ ⟨rfl, rfl⟩ | exact ⟨by omega, hK _ _ ⟨rfl, rfl⟩⟩)) ?_))
  generalize hw5 : ({ w4 with drawn := w4.drawn + 1 } : World) = w5
  have d5 : IsDk w5 b A h := d4.heap (by rw [← hw5])
  have f05 : Fr (fun i => Own b h i ∨ i = m) w w5 := by rw [← hw5]; exact f04.drew
  clear hw5
  have hpl2 := putB_length last a (DkSpec.sector now p.2)
  obtain ⟨w6, hr6, d6, t6⟩ := d5.setFile p.1 (now, putB last a (DkSpec.sector now p.2)) ⟨hsz.1, by
    show (putB last a (DkSpec.sector now p.2)).length ≤ _
    rw [hpl2]
    split
    · exact hsz.2
    · have hs2 : (DkSpec.sector now p.2).length ≤ now.length - a := by rw [← hsec]; simp; omega
      omega⟩
  simp only at hr6
  repeat (any_goals (first
  | (with_reducible refine pureM_in ?_)
  | (with_reducible first|refine pureQ_in ?_|refine gdQ_conv (fun _ => ?_)|refine pickQT ?_|refine pickQF ?_|refine pickQ_pos (by first|assumption|omega) ?_|refine pickQ_neg (by first|assumption|omega) ?_|refine pickQn_pos (by first|assumption|omega) ?_|refine pickQn_neg (by first|assumption|omega) ?_) | ((with_reducible refine oQ_one ?_ ?_); exact ⟨_, rfl⟩) | (with_reducible first|refine And.intro (Eq.refl (α := World) _) ?_|refine forall_one ?_|refine oQ_nil ?_) | (with_reducible refine oQ_of ⟨_, rfl⟩ (fun W0 hW0 => by (refine oM_gen (fun Kv hK => ?_)); simp [go_sem]; (first | exact hK _ _ ⟨rfl, rfl⟩ | exact ⟨by omega, hK _ _ ⟨rfl, rfl⟩⟩)) ?_)
  | (with_reducible refine And.intro (fun hs => absurd hs (by decide)) ?_)
  | (with_reducible first|refine gdtT ?_|refine gdtF ?_|refine gdfF ?_|refine gdfT ?_|refine gdu ?_ _|refine gdt_pos (by first|assumption|omega) ?_|refine gdt_neg (by first|assumption|omega) ?_|refine gdt_split (fun hg => ?_) (fun hg => ?_)|refine gdf_pos (by first|assumption|omega) ?_|refine gdf_neg (by first|assumption|omega) ?_|refine gdf_split (fun hg => ?_) (fun hg => ?_)|refine gdtn_pos (by first|assumption|omega) ?_|refine gdtn_neg (by first|assumption|omega) ?_|refine gdtn_split (fun hg => ?_) (fun hg => ?_)|refine gdfn_pos (by first|assumption|omega) ?_|refine gdfn_neg (by first|assumption|omega) ?_|refine gdfn_split (fun hg => ?_) (fun hg => ?_)|refine gdtbn_pos (by assumption) ?_|refine gdtbn_neg (by assumption) ?_|refine gdfbn_pos (by assumption) ?_|refine gdfbn_neg (by assumption) ?_|refine gdtb_pos (by assumption) ?_|refine gdtb_neg (by assumption) ?_|refine gdtb_split (fun hg => ?_) (fun hg => ?_)|refine gdfb_pos (by assumption) ?_|refine gdfb_neg (by assumption) ?_|refine gdfb_split (fun hg => ?_) (fun hg => ?_)|refine pickT ?_|refine pickF ?_|refine pick_pos (by first|assumption|omega) ?_|refine pick_neg (by first|assumption|omega) ?_|refine pickn_pos (by first|assumption|omega) ?_|refine pickn_neg (by first|assumption|omega) ?_|refine pickbn_pos (by assumption) ?_|refine pickbn_neg (by assumption) ?_|refine pickb_pos (by assumption) ?_|refine pickb_neg (by assumption) ?_|refine condT ?_|refine condF ?_|refine cond_pos (by first|assumption|omega) ?_|refine cond_neg (by first|assumption|omega) ?_|refine condM_dec (fun hg => ?_) (fun hg => ?_)|refine condn_pos (by first|assumption|omega) ?_|refine condn_neg (by first|assumption|omega) ?_|refine condM_ndec (fun hg => ?_) (fun hg => ?_)|refine condbn_pos (by assumption) ?_|refine condbn_neg (by assumption) ?_|refine condbn_split (fun hg => ?_) (fun hg => ?_)|refine condb_pos (by assumption) ?_|refine condb_neg (by assumption) ?_|refine condM_b (fun hg => ?_) (fun hg => ?_))
  | ((with_reducible refine oM_gen (fun Kv hK => ?_)); simp [go_sem, hr6]; (try simp (disch := omega) only [wrapI64, wrapU8, wrapU32, wrapU64]); (first | refine hK _ _ ?_ | refine And.intro (by omega) (hK _ _ ?_)); clear hK; clear Kv)))
  rw [← hnow, ← hlast, ← ha, Int.toNat_natCast] at k
  exact k w6 d6 (f05.trans t6.fr (fun i hi => .inl (.inl hi)))
def durL (F : Int → Bs × Bs) (l : List (Int × Value)) (done : List Int) : List (Int × Value) := l.map (fun y => (y.1, if y.1 ∈ done then flV ((F y.1).2, (F y.1).2) else y.2))
theorem durL_nil (F : Int → Bs × Bs) (l : List (Int × Value)) : durL F l [] = l := by
  unfold durL
  have : (fun y : Int × Value => (y.1, if y.1 ∈ ([] : List Int) then flV ((F y.1).2, (F y.1).2) else y.2)) = id := by funext y; simp
  rw [this, List.map_id]
theorem durL_keys (F : Int → Bs × Bs) (l : List (Int × Value)) (done : List Int) : (durL F l done).map (·.1) = l.map (·.1) := by
  unfold durL; rw [List.map_map]; rfl
theorem durL_put (F : Int → Bs × Bs) (l : List (Int × Value)) (done : List Int) (k : Int) (hk : k ∈ l.map (·.1)) : putA (durL F l done) k (flV ((F k).2, (F k).2)) = durL F l (k :: done) := by
  unfold putA
  rw [if_pos ((lookA_isSome _ _).2 (by rw [durL_keys]; exact hk))]
  unfold durL
  rw [List.map_map]
  apply List.map_congr_left
  intro y _
  simp only [Function.comp]
  by_cases hy : y.1 = k
  · simp [hy]
  · simp [hy]
theorem durL_look (F : Int → Bs × Bs) (l : List (Int × Value)) (done : List Int) (k : Int) : lookA (durL F l done) k = (lookA l k).map (fun v => if k ∈ done then flV ((F k).2, (F k).2) else v) := by
  unfold durL
  exact lookA_mapVal (fun k v => if k ∈ done then flV ((F k).2, (F k).2) else v) l k
theorem flV_inj {x y : Bs × Bs} (h : flV x = flV y) : x = y := by
  obtain ⟨a, b⟩ := x
  obtain ⟨c, d⟩ := y
  simp [flV, bsV] at h
  simp [h.1, h.2]
theorem crEnd_ok (d : IsDk w b A h) (k : ∀ w' h', IsDk w' b { A with F := fun f => ((A.F f).2, (A.F f).2), queue := [] } h' → Step w b h w' h' → K (.tuple #[]) w') : crEnd (dkP b) K w := by
  unfold crEnd
  have c0 := d.c 0
  simp only [dkCells] at c0
  obtain ⟨l0, m0, hl0⟩ := d.files
  have hnd0 : (l0.map (·.1)).Nodup := by obtain ⟨es, c, h1, h2, h3, _⟩ := m0; exact h3
  obtain ⟨o, hr, R⟩ := run_range (P := Tryd.prog) (t := 88) (kt := 3) (et := 100) (by kernel_rfl) m0
  have f0 : Fr (fun i => i = h.fm) w (w.alloc o) := (Fr.refl _ _).alloc _
  repeat (any_goals (first
  | (with_reducible refine pureM_in ?_)
  | (with_reducible first|refine pureQ_in ?_|refine gdQ_conv (fun _ => ?_)|refine pickQT ?_|refine pickQF ?_|refine pickQ_pos (by first|assumption|omega) ?_|refine pickQ_neg (by first|assumption|omega) ?_|refine pickQn_pos (by first|assumption|omega) ?_|refine pickQn_neg (by first|assumption|omega) ?_) | ((with_reducible refine oQ_one ?_ ?_); exact ⟨_, rfl⟩) | (with_reducible first|refine And.intro (Eq.refl (α := World) _) ?_|refine forall_one ?_|refine oQ_nil ?_) | (with_reducible refine oQ_of ⟨_, rfl⟩ (fun W0 hW0 => by (refine oM_gen (fun Kv hK => ?_)); simp [go_sem]; (first | exact hK _ _ ⟨rfl, rfl⟩ | exact ⟨by omega, hK _ _ ⟨rfl, rfl⟩⟩)) ?_)
  | (with_reducible first|refine gdtT ?_|refine gdtF ?_|refine gdfF ?_|refine gdfT ?_|refine gdu ?_ _|refine gdt_pos (by first|assumption|omega) ?_|refine gdt_neg (by first|assumption|omega) ?_|refine gdt_split (fun hg => ?_) (fun hg => ?_)|refine gdf_pos (by first|assumption|omega) ?_|refine gdf_neg (by first|assumption|omega) ?_|refine gdf_split (fun hg => ?_) (fun hg => ?_)|refine gdtn_pos (by first|assumption|omega) ?_|refine gdtn_neg (by first|assumption|omega) ?_|refine gdtn_split (fun hg => ?_) (fun hg => ?_)|refine gdfn_pos (by first|assumption|omega) ?_|refine gdfn_neg (by first|assumption|omega) ?_|refine gdfn_split (fun hg => ?_) (fun hg => ?_)|refine gdtbn_pos (by assumption) ?_|refine gdtbn_neg (by assumption) ?_|refine gdfbn_pos (by assumption) ?_|refine gdfbn_neg (by assumption) ?_|refine gdtb_pos (by assumption) ?_|refine gdtb_neg (by assumption) ?_|refine gdtb_split (fun hg => ?_) (fun hg => ?_)|refine gdfb_pos (by assumption) ?_|refine gdfb_neg (by assumption) ?_|refine gdfb_split (fun hg => ?_) (fun hg => ?_)|refine pickT ?_|refine pickF ?_|refine pick_pos (by first|assumption|omega) ?_|refine pick_neg (by first|assumption|omega) ?_|refine pickn_pos (by first|assumption|omega) ?_|refine pickn_neg (by first|assumption|omega) ?_|refine pickbn_pos (by assumption) ?_|refine pickbn_neg (by assumption) ?_|refine pickb_pos (by assumption) ?_|refine pickb_neg (by assumption) ?_|refine condT ?_|refine condF ?_|refine cond_pos (by first|assumption|omega) ?_|refine cond_neg (by first|assumption|omega) ?_|refine condM_dec (fun hg => ?_) (fun hg => ?_)|refine condn_pos (by first|assumption|omega) ?_|refine condn_neg (by first|assumption|omega) ?_|refine condM_ndec (fun hg => ?_) (fun hg => ?_)|refine condbn_pos (by assumption) ?_|refine condbn_neg (by assumption) ?_|refine condbn_split (fun hg => ?_) (fun hg => ?_)|refine condb_pos (by assumption) ?_|refine condb_neg (by assumption) ?_|refine condM_b (fun hg => ?_) (fun hg => ?_))
  | ((with_reducible refine oM_gen (fun Kv hK => ?_)); simp [go_sem, c0, hr]; (try simp (disch := omega) only [wrapI64, wrapU8, wrapU32, wrapU64]); (first | refine hK _ _ ?_ | refine And.intro (by omega) (hK _ _ ?_)); clear hK; clear Kv)))
  generalize w.alloc o = w0 at *
  have hfm : h.fm < w.heap.size := m0.lt
  have hbl : b < w.heap.size := d.lt (.inl (.inl rfl))
  refine ⟨fun l w' => ∃ u done, l = [u] ∧ done.Nodup ∧ Ranged i64V w' w.heap.size h.fm (durL A.F l0 done) (l0.map (·.1)) done ∧ Fr (fun i => i = h.fm) w w', fun _ w' => (l0.map (·.1)).length + 1 - (w'.iterSeen w.heap.size).size, ⟨_, [], rfl, List.nodup_nil, by rw [durL_nil]; exact R, f0⟩, ?_⟩
  rintro l u w1 ⟨u1, done, rfl, hnd, R1, f1⟩
  have hlen := nodup_sub_len done _ hnd R1.sub
  have hseen := R1.seen
  rcases run_next (P := Tryd.prog) (ty := 0) R1 with ⟨hall, hn⟩ | ⟨y, hy, hyd, w2, hn, R2, g2, z2⟩
  · have m1 := R1.map
    have hF : ∀ f, (lookA (durL A.F l0 done) f).getD (flV ([], [])) = flV ((A.F f).2, (A.F f).2) := by
      intro f
      rw [durL_look]
      have h2 := hl0 f
      cases hlk : lookA l0 f with
      | none =>
        rw [hlk] at h2
        have := flV_inj h2
        simp only [Option.map_none, Option.getD_none]
        rw [← this]
      | some v =>
        have hfk : f ∈ l0.map (·.1) := (lookA_isSome _ _).1 (by rw [hlk]; rfl)
        rw [← durL_keys A.F l0 done] at hfk
        obtain ⟨y, hy, rfl⟩ := List.mem_map.1 hfk
        simp only [Option.map_some, Option.getD_some, if_pos (hall y hy)]
    have b1 := (f1.block b hbl d.bfm).trans d.blk
    repeat (any_goals (first
    | (with_reducible refine pureM_in ?_)
    | (with_reducible first|refine pureQ_in ?_|refine gdQ_conv (fun _ => ?_)|refine pickQT ?_|refine pickQF ?_|refine pickQ_pos (by first|assumption|omega) ?_|refine pickQ_neg (by first|assumption|omega) ?_|refine pickQn_pos (by first|assumption|omega) ?_|refine pickQn_neg (by first|assumption|omega) ?_) | ((with_reducible refine oQ_one ?_ ?_); exact ⟨_, rfl⟩) | (with_reducible first|refine And.intro (Eq.refl (α := World) _) ?_|refine forall_one ?_|refine oQ_nil ?_) | (with_reducible refine oQ_of ⟨_, rfl⟩ (fun W0 hW0 => by (refine oM_gen (fun Kv hK => ?_)); simp [go_sem]; (first | exact hK _ _ ⟨rfl, rfl⟩ | exact ⟨by omega, hK _ _ ⟨rfl, rfl⟩⟩)) ?_)
    | (with_reducible first|refine gdtT ?_|refine gdtF ?_|refine gdfF ?_|refine gdfT ?_|refine gdu ?_ _|refine gdt_pos (by first|assumption|omega) ?_|refine gdt_neg (by first|assumption|omega) ?_|refine gdt_split (fun hg => ?_) (fun hg => ?_)|refine gdf_pos (by first|assumption|omega) ?_|refine gdf_neg (by first|assumption|omega) ?_|refine gdf_split (fun hg => ?_) (fun hg => ?_)|refine gdtn_pos (by first|assumption|omega) ?_|refine gdtn_neg (by first|assumption|omega) ?_|refine gdtn_split (fun hg => ?_) (fun hg => ?_)|refine gdfn_pos (by first|assumption|omega) ?_|refine gdfn_neg (by first|assumption|omega) ?_|refine gdfn_split (fun hg => ?_) (fun hg => ?_)|refine gdtbn_pos (by assumption) ?_|refine gdtbn_neg (by assumption) ?_|refine gdfbn_pos (by assumption) ?_|refine gdfbn_neg (by assumption) ?_|refine gdtb_pos (by assumption) ?_|refine gdtb_neg (by assumption) ?_|refine gdtb_split (fun hg => ?_) (fun hg => ?_)|refine gdfb_pos (by assumption) ?_|refine gdfb_neg (by assumption) ?_|refine gdfb_split (fun hg => ?_) (fun hg => ?_)|refine pickT ?_|refine pickF ?_|refine pick_pos (by first|assumption|omega) ?_|refine pick_neg (by first|assumption|omega) ?_|refine pickn_pos (by first|assumption|omega) ?_|refine pickn_neg (by first|assumption|omega) ?_|refine pickbn_pos (by assumption) ?_|refine pickbn_neg (by assumption) ?_|refine pickb_pos (by assumption) ?_|refine pickb_neg (by assumption) ?_|refine condT ?_|refine condF ?_|refine cond_pos (by first|assumption|omega) ?_|refine cond_neg (by first|assumption|omega) ?_|refine condM_dec (fun hg => ?_) (fun hg => ?_)|refine condn_pos (by first|assumption|omega) ?_|refine condn_neg (by first|assumption|omega) ?_|refine condM_ndec (fun hg => ?_) (fun hg => ?_)|refine condbn_pos (by assumption) ?_|refine condbn_neg (by assumption) ?_|refine condbn_split (fun hg => ?_) (fun hg => ?_)|refine condb_pos (by assumption) ?_|refine condb_neg (by assumption) ?_|refine condM_b (fun hg => ?_) (fun hg => ?_))
    | ((with_reducible refine oM_gen (fun Kv hK => ?_)); simp [go_sem, hn]; (try simp (disch := omega) only [wrapI64, wrapU8, wrapU32, wrapU64]); (first | refine hK _ _ ?_ | refine And.intro (by omega) (hK _ _ ?_)); clear hK; clear Kv)))
    have pf : Fr (fun _ => False) w1 (w1.alloc (.map #[] 0)) := (Fr.refl _ _).alloc _
    have pm : MapIs secV (w1.alloc (.map #[] 0)) w1.heap.size [] := mapIs_new w1
    have pz := alloc_size w1 (.map #[] 0)
    have hz1 := f1.size
    have hb2 := (pf.block b (by omega) (fun h => h)).trans b1
    have m2 := m1.alloc (.map #[] 0)
    have f2 := f1.trans pf (fun _ h => h.elim)
    generalize w1.alloc (.map #[] 0) = w2 at *
    have y1 := frozen_of_block hb2 1
    have e1 := cell_of_block hb2 1
    have hb3 := block_set (i := 1) hb2 (.slice none 0 0)
    have y2 := frozen_of_block hb3 2
    have e2 := cell_of_block hb3 2
    have hb4 := block_set (i := 2) hb3 (.map (some w1.heap.size))
    simp [dkCells] at e1 e2
    repeat (any_goals (first
    | (with_reducible refine pureM_in ?_)
    | (with_reducible first|refine pureQ_in ?_|refine gdQ_conv (fun _ => ?_)|refine pickQT ?_|refine pickQF ?_|refine pickQ_pos (by first|assumption|omega) ?_|refine pickQ_neg (by first|assumption|omega) ?_|refine pickQn_pos (by first|assumption|omega) ?_|refine pickQn_neg (by first|assumption|omega) ?_) | ((with_reducible refine oQ_one ?_ ?_); exact ⟨_, rfl⟩) | (with_reducible first|refine And.intro (Eq.refl (α := World) _) ?_|refine forall_one ?_|refine oQ_nil ?_) | (with_reducible refine oQ_of ⟨_, rfl⟩ (fun W0 hW0 => by (refine oM_gen (fun Kv hK => ?_)); simp [go_sem]; (first | exact hK _ _ ⟨rfl, rfl⟩ | exact ⟨by omega, hK _ _ ⟨rfl, rfl⟩⟩)) ?_)
    | (with_reducible first|refine gdtT ?_|refine gdtF ?_|refine gdfF ?_|refine gdfT ?_|refine gdu ?_ _|refine gdt_pos (by first|assumption|omega) ?_|refine gdt_neg (by first|assumption|omega) ?_|refine gdt_split (fun hg => ?_) (fun hg => ?_)|refine gdf_pos (by first|assumption|omega) ?_|refine gdf_neg (by first|assumption|omega) ?_|refine gdf_split (fun hg => ?_) (fun hg => ?_)|refine gdtn_pos (by first|assumption|omega) ?_|refine gdtn_neg (by first|assumption|omega) ?_|refine gdtn_split (fun hg => ?_) (fun hg => ?_)|refine gdfn_pos (by first|assumption|omega) ?_|refine gdfn_neg (by first|assumption|omega) ?_|refine gdfn_split (fun hg => ?_) (fun hg => ?_)|refine gdtbn_pos (by assumption) ?_|refine gdtbn_neg (by assumption) ?_|refine gdfbn_pos (by assumption) ?_|refine gdfbn_neg (by assumption) ?_|refine gdtb_pos (by assumption) ?_|refine gdtb_neg (by assumption) ?_|refine gdtb_split (fun hg => ?_) (fun hg => ?_)|refine gdfb_pos (by assumption) ?_|refine gdfb_neg (by assumption) ?_|refine gdfb_split (fun hg => ?_) (fun hg => ?_)|refine pickT ?_|refine pickF ?_|refine pick_pos (by first|assumption|omega) ?_|refine pick_neg (by first|assumption|omega) ?_|refine pickn_pos (by first|assumption|omega) ?_|refine pickn_neg (by first|assumption|omega) ?_|refine pickbn_pos (by assumption) ?_|refine pickbn_neg (by assumption) ?_|refine pickb_pos (by assumption) ?_|refine pickb_neg (by assumption) ?_|refine condT ?_|refine condF ?_|refine cond_pos (by first|assumption|omega) ?_|refine cond_neg (by first|assumption|omega) ?_|refine condM_dec (fun hg => ?_) (fun hg => ?_)|refine condn_pos (by first|assumption|omega) ?_|refine condn_neg (by first|assumption|omega) ?_|refine condM_ndec (fun hg => ?_) (fun hg => ?_)|refine condbn_pos (by assumption) ?_|refine condbn_neg (by assumption) ?_|refine condbn_split (fun hg => ?_) (fun hg => ?_)|refine condb_pos (by assumption) ?_|refine condb_neg (by assumption) ?_|refine condM_b (fun hg => ?_) (fun hg => ?_))
    | ((with_reducible refine oM_gen (fun Kv hK => ?_)); simp [go_sem, y1, e1, y2, e2]; (try simp (disch := omega) only [wrapI64, wrapU8, wrapU32, wrapU64]); (first | refine hK _ _ ?_ | refine And.intro (by omega) (hK _ _ ?_)); clear hK; clear Kv)))
    have f4 := (f2.mono (S' := Own b h) (fun i _ hi => .inr (.inl hi))).set ⟨b, 1, none⟩ (.slice none 0 0) (.inl (.inl rfl)) |>.set ⟨b, 2, none⟩ (.map (some w1.heap.size)) (.inl (.inl rfl))
    have k4 : ∀ i, i ≠ b → ((w2.setCell ⟨b, 1, none⟩ (.slice none 0 0)).setCell ⟨b, 2, none⟩ (.map (some w1.heap.size))).heap[i]? = w2.heap[i]? := fun i hi => by rw [setCell_heap_ne _ _ _ _ hi, setCell_heap_ne _ _ _ _ hi]
    generalize (w2.setCell ⟨b, 1, none⟩ (.slice none 0 0)).setCell ⟨b, 2, none⟩ (.map (some w1.heap.size)) = w4 at *
    have hfne : h.fm ≠ w1.heap.size := by omega
    refine k w4 { h with q := .slice none 0 0, sm := w1.heap.size } ⟨?_, ⟨_, m2.of_block (k4 _ d.bfm.symm), hF⟩, ⟨[], pm.of_block (k4 _ (by omega)), fun p => by simp [lookA_nil]⟩, ?_, ?_, hfne, ?_⟩ ⟨f4, ?_, fun i hi => .inl hi⟩
    · rw [hb4]; rfl
    · exact World.ownsRow_nil _ _ _ _
    · refine owns_keep d.kep (fun i hi => ?_)
      have h1 := d.kne hi
      have h2 := d.lt (.inr hi)
      rw [k4 i h1.1]
      exact f2.block i h2 h1.2.1
    · exact ⟨d.wf.l0, d.wf.l1, d.wf.a0, d.wf.a1, List.nodup_nil, fun p hp => absurd hp (by simp), fun f => ⟨(d.wf.sz f).2, (d.wf.sz f).2⟩, d.wf.kr, d.wf.kl⟩
    · rintro i (rfl | rfl | rfl | hi)
      · exact .inl (.inl rfl)
      · exact .inl (.inr (.inl rfl))
      · exact .inr hz1
      · cases hi
  · have he := run_entry (P := Tryd.prog) R2 hy
    have f2 : Fr (fun i => i = h.fm) w w2 := f1.by g2 (fun i hi => by cases hi; exact .inr (Nat.le_refl _))
    have hyk : y.1 ∈ l0.map (·.1) := by
      have := List.mem_map_of_mem (f := (·.1)) hy
      rw [durL_keys] at this
      exact this
    have hyv : y.2 = flV (A.F y.1) := by
      have h1 := lookA_mem (durL A.F l0 done) (by rw [durL_keys]; exact hnd0) y hy
      rw [durL_look] at h1
      have h2 := hl0 y.1
      cases hlk : lookA l0 y.1 with
      | none => rw [hlk] at h1; cases h1
      | some v =>
        rw [hlk] at h1 h2
        simp only [Option.map_some, if_neg hyd, Option.some.injEq] at h1
        simp only [Option.getD_some] at h2
        rw [← h1, h2]
    rw [hyv] at he
    simp only [i64V] at hn he
    repeat (any_goals (first
    | (with_reducible refine pureM_in ?_)
    | (with_reducible first|refine pureQ_in ?_|refine gdQ_conv (fun _ => ?_)|refine pickQT ?_|refine pickQF ?_|refine pickQ_pos (by first|assumption|omega) ?_|refine pickQ_neg (by first|assumption|omega) ?_|refine pickQn_pos (by first|assumption|omega) ?_|refine pickQn_neg (by first|assumption|omega) ?_) | ((with_reducible refine oQ_one ?_ ?_); exact ⟨_, rfl⟩) | (with_reducible first|refine And.intro (Eq.refl (α := World) _) ?_|refine forall_one ?_|refine oQ_nil ?_) | (with_reducible refine oQ_of ⟨_, rfl⟩ (fun W0 hW0 => by (refine oM_gen (fun Kv hK => ?_)); simp [go_sem]; (first | exact hK _ _ ⟨rfl, rfl⟩ | exact ⟨by omega, hK _ _ ⟨rfl, rfl⟩⟩)) ?_)
    | (with_reducible first|refine gdtT ?_|refine gdtF ?_|refine gdfF ?_|refine gdfT ?_|refine gdu ?_ _|refine gdt_pos (by first|assumption|omega) ?_|refine gdt_neg (by first|assumption|omega) ?_|refine gdt_split (fun hg => ?_) (fun hg => ?_)|refine gdf_pos (by first|assumption|omega) ?_|refine gdf_neg (by first|assumption|omega) ?_|refine gdf_split (fun hg => ?_) (fun hg => ?_)|refine gdtn_pos (by first|assumption|omega) ?_|refine gdtn_neg (by first|assumption|omega) ?_|refine gdtn_split (fun hg => ?_) (fun hg => ?_)|refine gdfn_pos (by first|assumption|omega) ?_|refine gdfn_neg (by first|assumption|omega) ?_|refine gdfn_split (fun hg => ?_) (fun hg => ?_)|refine gdtbn_pos (by assumption) ?_|refine gdtbn_neg (by assumption) ?_|refine gdfbn_pos (by assumption) ?_|refine gdfbn_neg (by assumption) ?_|refine gdtb_pos (by assumption) ?_|refine gdtb_neg (by assumption) ?_|refine gdtb_split (fun hg => ?_) (fun hg => ?_)|refine gdfb_pos (by assumption) ?_|refine gdfb_neg (by assumption) ?_|refine gdfb_split (fun hg => ?_) (fun hg => ?_)|refine pickT ?_|refine pickF ?_|refine pick_pos (by first|assumption|omega) ?_|refine pick_neg (by first|assumption|omega) ?_|refine pickn_pos (by first|assumption|omega) ?_|refine pickn_neg (by first|assumption|omega) ?_|refine pickbn_pos (by assumption) ?_|refine pickbn_neg (by assumption) ?_|refine pickb_pos (by assumption) ?_|refine pickb_neg (by assumption) ?_|refine condT ?_|refine condF ?_|refine cond_pos (by first|assumption|omega) ?_|refine cond_neg (by first|assumption|omega) ?_|refine condM_dec (fun hg => ?_) (fun hg => ?_)|refine condn_pos (by first|assumption|omega) ?_|refine condn_neg (by first|assumption|omega) ?_|refine condM_ndec (fun hg => ?_) (fun hg => ?_)|refine condbn_pos (by assumption) ?_|refine condbn_neg (by assumption) ?_|refine condbn_split (fun hg => ?_) (fun hg => ?_)|refine condb_pos (by assumption) ?_|refine condb_neg (by assumption) ?_|refine condM_b (fun hg => ?_) (fun hg => ?_))
    | ((with_reducible refine oM_gen (fun Kv hK => ?_)); simp [go_sem, hn, he]; (try simp (disch := omega) only [wrapI64, wrapU8, wrapU32, wrapU64]); (first | refine hK _ _ ?_ | refine And.intro (by omega) (hK _ _ ?_)); clear hK; clear Kv)))
    have pf : Fr (fun _ => False) w2 (w2.alloc (.cells #[.string ⟨#[]⟩, .string ⟨#[]⟩] 100 (0, 0))) := (Fr.refl _ _).alloc _
    have p0 := heap_alloc_new w2 (.cells #[.string ⟨#[]⟩, .string ⟨#[]⟩] 100 (0, 0))
    have pz := alloc_size w2 (.cells #[.string ⟨#[]⟩, .string ⟨#[]⟩] 100 (0, 0))
    generalize w2.alloc (.cells #[.string ⟨#[]⟩, .string ⟨#[]⟩] 100 (0, 0)) = w3 at *
    refine store2_at (fun w => by kernel_rfl) rfl rfl p0 (by simp) (fun w4 cur4 g4 n4 s4 _ a4 b4 => ?_)
    have f24 : Fr (fun _ => False) w2 w4 := pf.by g4 (fun i hi => by cases hi; exact .inr (Nat.le_refl _))
    have R4 := R2.of_blocks (f24.block h.fm R2.lt.1 (fun h => h)) (f24.block w.heap.size R2.lt.2.1 (fun h => h))
    have fr4 : Fr (fun i => i = h.fm) w w4 := f2.trans f24 (fun _ h => h.elim)
    have b4' : w4.heap[b]? = some (.cells (dkCells A h) 92 (0, 0)) := (fr4.block b hbl d.bfm).trans d.blk
    have e0 := cell_of_block b4' 0
    simp only [dkCells] at e0
    have z0 := cell_of_block n4 1
    rw [Nat.zero_add] at b4
    rw [b4] at z0
    refine ⟨fun sg w' => sg ≤ 1 → w'.heap = w4.heap, fun _ => rfl, ?_⟩
    repeat (first | (with_reducible refine pureH_in ?_) | (with_reducible refine oH_nil ?_) | (with_reducible refine gdH_true rfl ?_) | (with_reducible refine gdH_false rfl ?_) | (refine oH_of ⟨_, rfl⟩ (fun W0 hW0 => by (obtain ⟨s0, hs0, hC⟩ := hW0); (refine oM_gen (fun Kv hK => ?_)); simp [go_sem, cell_heap (hC (by omega)), e0, z0]; (first | exact hK _ _ ⟨rfl, rfl⟩ | exact ⟨by omega, hK _ _ ⟨rfl, rfl⟩⟩)) ?_))
    generalize hw5 : ({ w4 with drawn := w4.drawn + 1 } : World) = w5
    have hh5 : w5.heap = w4.heap := by rw [← hw5]
    have f5 : Fr (fun i => i = h.fm) w w5 := by rw [← hw5]; exact fr4.drew
    have R5 := R4.of_blocks (w' := w5) (by rw [hh5]) (by rw [hh5])
    clear hw5
    obtain ⟨w6, hu, R6, g6, z6⟩ := run_updateR (P := Tryd.prog) (t := 88) (et := 100) keyI (by kernel_rfl) R5 y.1 (flV ((A.F y.1).2, (A.F y.1).2)) (by rw [durL_keys]; exact hyk)
    rw [durL_put _ _ _ _ hyk] at R6
    simp only [i64V, flV, bsV] at hu
    repeat (any_goals (first
    | (with_reducible refine pureM_in ?_)
    | (with_reducible first|refine pureQ_in ?_|refine gdQ_conv (fun _ => ?_)|refine pickQT ?_|refine pickQF ?_|refine pickQ_pos (by first|assumption|omega) ?_|refine pickQ_neg (by first|assumption|omega) ?_|refine pickQn_pos (by first|assumption|omega) ?_|refine pickQn_neg (by first|assumption|omega) ?_) | ((with_reducible refine oQ_one ?_ ?_); exact ⟨_, rfl⟩) | (with_reducible first|refine And.intro (Eq.refl (α := World) _) ?_|refine forall_one ?_|refine oQ_nil ?_) | (with_reducible refine oQ_of ⟨_, rfl⟩ (fun W0 hW0 => by (refine oM_gen (fun Kv hK => ?_)); simp [go_sem]; (first | exact hK _ _ ⟨rfl, rfl⟩ | exact ⟨by omega, hK _ _ ⟨rfl, rfl⟩⟩)) ?_)
    | (with_reducible refine And.intro (fun _ => hh5) ?_) | (with_reducible refine And.intro (fun hs => absurd hs (by decide)) ?_)
    | (with_reducible first|refine gdtT ?_|refine gdtF ?_|refine gdfF ?_|refine gdfT ?_|refine gdu ?_ _|refine gdt_pos (by first|assumption|omega) ?_|refine gdt_neg (by first|assumption|omega) ?_|refine gdt_split (fun hg => ?_) (fun hg => ?_)|refine gdf_pos (by first|assumption|omega) ?_|refine gdf_neg (by first|assumption|omega) ?_|refine gdf_split (fun hg => ?_) (fun hg => ?_)|refine gdtn_pos (by first|assumption|omega) ?_|refine gdtn_neg (by first|assumption|omega) ?_|refine gdtn_split (fun hg => ?_) (fun hg => ?_)|refine gdfn_pos (by first|assumption|omega) ?_|refine gdfn_neg (by first|assumption|omega) ?_|refine gdfn_split (fun hg => ?_) (fun hg => ?_)|refine gdtbn_pos (by assumption) ?_|refine gdtbn_neg (by assumption) ?_|refine gdfbn_pos (by assumption) ?_|refine gdfbn_neg (by assumption) ?_|refine gdtb_pos (by assumption) ?_|refine gdtb_neg (by assumption) ?_|refine gdtb_split (fun hg => ?_) (fun hg => ?_)|refine gdfb_pos (by assumption) ?_|refine gdfb_neg (by assumption) ?_|refine gdfb_split (fun hg => ?_) (fun hg => ?_)|refine pickT ?_|refine pickF ?_|refine pick_pos (by first|assumption|omega) ?_|refine pick_neg (by first|assumption|omega) ?_|refine pickn_pos (by first|assumption|omega) ?_|refine pickn_neg (by first|assumption|omega) ?_|refine pickbn_pos (by assumption) ?_|refine pickbn_neg (by assumption) ?_|refine pickb_pos (by assumption) ?_|refine pickb_neg (by assumption) ?_|refine condT ?_|refine condF ?_|refine cond_pos (by first|assumption|omega) ?_|refine cond_neg (by first|assumption|omega) ?_|refine condM_dec (fun hg => ?_) (fun hg => ?_)|refine condn_pos (by first|assumption|omega) ?_|refine condn_neg (by first|assumption|omega) ?_|refine condM_ndec (fun hg => ?_) (fun hg => ?_)|refine condbn_pos (by assumption) ?_|refine condbn_neg (by assumption) ?_|refine condbn_split (fun hg => ?_) (fun hg => ?_)|refine condb_pos (by assumption) ?_|refine condb_neg (by assumption) ?_|refine condM_b (fun hg => ?_) (fun hg => ?_))
    | ((with_reducible refine oM_gen (fun Kv hK => ?_)); simp [go_sem, hu]; (try simp (disch := omega) only [wrapI64, wrapU8, wrapU32, wrapU64]); (first | refine hK _ _ ?_ | refine And.intro (by omega) (hK _ _ ?_)); clear hK; clear Kv)))
    refine ⟨⟨_, y.1 :: done, rfl, List.nodup_cons.2 ⟨hyd, hnd⟩, R6, f5.by g6 (fun i hi => by cases hi; exact .inl rfl)⟩, ?_⟩
    have h6 := R6.seen
    have h7 := nodup_sub_len (y.1 :: done) _ (List.nodup_cons.2 ⟨hyd, hnd⟩) R6.sub
    simp only [List.length_cons] at h6 h7
    show _ - _ < _ - _
    omega
end
end Go.Proofs
namespace Go.Proofs
open Go Go.Sh Go.RowKit DkSpec
set_option linter.unusedSimpArgs false
set_option linter.unusedVariables false
set_option maxRecDepth 10000
attribute [local go_sem] oM_indexAddr
def crMid (a0 a1 v5_20 v6_32 v39_31 x : Value) (M_16 : List Value → World → Prop) (w : World) : Prop :=
 (oM Tryd.prog (Go.Op.call (Go.Call.mk (Go.Callee.builtin Go.Builtin.len) #[(.tmp 0)] #[22])) 3 [a1] (fun v41_34 w =>
 oM Tryd.prog (Go.Op.binOp Go.BinOp.eql 3 (.tmp 0) (.const (.int .i64 0)) 3) 4 [v41_34] (fun v42_35 w =>
 gdM (gd v42_35 false) (pureM a1) (fun v44_36 w =>
 gdM (gd v42_35 false) (pureM x) (fun v45_37 w =>
 gdM (gd v42_35 false) (pureM a1) (fun v46_38 w =>
 gdM (gd v42_35 false) (oM Tryd.prog (Go.Op.call (Go.Call.mk (Go.Callee.builtin Go.Builtin.len) #[(.tmp 0)] #[22])) 3 [v46_38]) (fun v47_39 w =>
 gdM (gd v42_35 false) (oM Tryd.prog (Go.Op.binOp Go.BinOp.rem 3 (.tmp 0) (.tmp 1) 3) 3 [v45_37, v47_39]) (fun v48_40 w =>
 gdM (gd v42_35 false) (oM Tryd.prog (Go.Op.indexAddr 22 (.tmp 0) (.tmp 1)) 0 [v44_36, v48_40]) (fun v49_41 w =>
 gdM (gd v42_35 false) (oM Tryd.prog (Go.Op.load 3 (.tmp 0)) 3 [v49_41]) (fun v50_42 w =>
 gdM (gd v42_35 false) (oM Tryd.prog (Go.Op.binOp Go.BinOp.and 3 (.tmp 0) (.tmp 1) 3) 3 [v50_42, (.int .i64 1)]) (fun v51_43 w =>
 gdM (gd v42_35 false) (oM Tryd.prog (Go.Op.binOp Go.BinOp.eql 3 (.tmp 0) (.const (.int .i64 0)) 3) 4 [v51_43]) (fun v52_44 w =>
 oM Tryd.prog (Go.Op.pick (.tmp 0) (.tmp 1) (.tmp 2)) 4 [v42_35, (.bool true), v52_44] (fun v53_45 w =>
 gdM (gd v53_45 false) (pureM v39_31) (fun v55_46 w =>
 gdM (gd v53_45 false) (oM Tryd.prog (Go.Op.fieldAddr 100 (.tmp 0) 0) 0 [v6_32]) (fun v56_47 w =>
 gdM (gd v53_45 false) (oM Tryd.prog (Go.Op.load 9 (.tmp 0)) 9 [v56_47]) (fun v57_48 w =>
 gdM (gd v53_45 false) (oM Tryd.prog (Go.Op.call (Go.Call.mk (Go.Callee.builtin Go.Builtin.len) #[(.tmp 0)] #[9])) 3 [v57_48]) (fun v58_49 w =>
 gdM (gd v53_45 false) (oM Tryd.prog (Go.Op.binOp Go.BinOp.geq 3 (.tmp 0) (.tmp 1) 3) 4 [v55_46, v58_49]) (fun v59_50 w =>
 oM Tryd.prog (Go.Op.pick (.tmp 0) (.tmp 1) (.tmp 2)) 4 [v53_45, (.bool true), v59_50] (fun v60_51 w =>
 condM v60_51
 (M_16 [x, v39_31] w)
 (stageM w (fun C_52 w => (oH Tryd.prog (Go.Op.fieldAddr 100 (.tmp 0) 1) 0 [v6_32] (upto C_52 0) (fun v61_53 =>
 oH Tryd.prog (Go.Op.load 9 (.tmp 0)) 9 [v61_53] (upto C_52 0) (fun v62_54 =>
 pureH v39_31 (upto C_52 0) (fun v63_55 =>
 oH Tryd.prog (Go.Op.fieldAddr 100 (.tmp 0) 0) 0 [v6_32] (upto C_52 0) (fun v64_56 =>
 oH Tryd.prog (Go.Op.load 9 (.tmp 0)) 9 [v64_56] (upto C_52 0) (fun v65_57 =>
 pureH v39_31 (upto C_52 0) (fun v66_58 =>
 pureH v39_31 (upto C_52 0) (fun v67_59 =>
 oH Tryd.prog (Go.Op.binOp Go.BinOp.add 3 (.tmp 0) (.tmp 1) 3) 3 [v67_59, (.int .i64 64)] (upto C_52 0) (fun v68_60 =>
 oH Tryd.prog (Go.Op.fieldAddr 100 (.tmp 0) 0) 0 [v6_32] (upto C_52 0) (fun v69_61 =>
 oH Tryd.prog (Go.Op.load 9 (.tmp 0)) 9 [v69_61] (upto C_52 0) (fun v70_62 =>
 oH Tryd.prog (Go.Op.call (Go.Call.mk (Go.Callee.builtin Go.Builtin.len) #[(.tmp 0)] #[9])) 3 [v70_62] (upto C_52 0) (fun v71_63 =>
 oH Tryd.prog (Go.Op.call (Go.Call.mk (Go.Callee.builtin Go.Builtin.min) #[(.tmp 0), (.tmp 1)] #[3, 3])) 3 [v68_60, v71_63] (upto C_52 0) (fun v72_64 =>
 oH Tryd.prog (Go.Op.slice 9 (.tmp 0) (some (.tmp 1)) (some (.tmp 2)) none) 9 [v65_57, v66_58, v72_64] (upto C_52 0) (fun v73_65 =>
 callM Tryd.prog 88 #[v62_54, v63_55, v73_65] (fun v74_66 w => C_52 1 w ∧ (
 oM Tryd.prog (Go.Op.fieldAddr 100 (.tmp 0) 1) 0 [v6_32] (fun v75_67 w => C_52 2 w ∧ (
 oM Tryd.prog (Go.Op.store 9 (.tmp 0) (.tmp 1)) 0 [v75_67, v74_66] (fun _ w => C_52 3 w ∧ (
 stageM w (fun C_68 w => (pureH a0 (upto C_68 0) (fun v76_69 =>
 oH Tryd.prog (Go.Op.nilCheck (.tmp 0)) 0 [v76_69] (upto C_68 0) (fun v77_70 =>
 oH Tryd.prog (Go.Op.fieldAddr 92 (.tmp 0) 0) 0 [v77_70] (upto C_68 0) (fun v78_71 =>
 oH Tryd.prog (Go.Op.load 88 (.tmp 0)) 88 [v78_71] (upto C_68 0) (fun v79_72 =>
 oH Tryd.prog (Go.Op.fieldAddr 103 (.tmp 0) 0) 0 [v5_20] (upto C_68 0) (fun v80_73 =>
 oH Tryd.prog (Go.Op.load 3 (.tmp 0)) 3 [v80_73] (upto C_68 0) (fun v81_74 =>
 oH Tryd.prog (Go.Op.load 100 (.tmp 0)) 100 [v6_32] (upto C_68 0) (fun v82_75 =>
 oM Tryd.prog (Go.Op.mapUpdate 88 (.tmp 0) (.tmp 1) (.tmp 2)) 0 [v79_72, v81_74, v82_75] (fun _ w => C_68 1 w ∧ (
 M_16 [x, v39_31] w)) w))))))))))) w)) w)) w))))))))))))))))) w) w) w) w) w) w) w) w) w) w) w) w) w) w) w) w) w) w)
def crBody (a0 a1 v23_10 x : Value) (M_16 : List Value → World → Prop) (w : World) : Prop :=
 (oM Tryd.prog (Go.Op.indexAddr 90 (.tmp 0) (.tmp 1)) 0 [v23_10, x] (fun v28_18 w =>
 oM Tryd.prog (Go.Op.load 103 (.tmp 0)) 103 [v28_18] (fun v29_19 w =>
 oM Tryd.prog (Go.Op.alloc 103) 0 [] (fun v5_20 w =>
 oM Tryd.prog (Go.Op.store 103 (.tmp 0) (.tmp 1)) 0 [v5_20, v29_19] (fun _ w =>
 stageM w (fun C_21 w => (pureH a0 (upto C_21 1) (fun v30_22 =>
 oH Tryd.prog (Go.Op.nilCheck (.tmp 0)) 0 [v30_22] (upto C_21 1) (fun v31_23 =>
 oH Tryd.prog (Go.Op.fieldAddr 92 (.tmp 0) 0) 0 [v31_23] (upto C_21 1) (fun v32_24 =>
 oH Tryd.prog (Go.Op.load 88 (.tmp 0)) 88 [v32_24] (upto C_21 1) (fun v33_25 =>
 oH Tryd.prog (Go.Op.fieldAddr 103 (.tmp 0) 0) 0 [v5_20] (upto C_21 1) (fun v34_26 =>
 oH Tryd.prog (Go.Op.load 3 (.tmp 0)) 3 [v34_26] (upto C_21 1) (fun v35_27 =>
 oH Tryd.prog (Go.Op.lookup 88 (.tmp 0) (.tmp 1) false) 100 [v33_25, v35_27] (upto C_21 1) (fun v36_28 =>
 oH Tryd.prog (Go.Op.fieldAddr 103 (.tmp 0) 1) 0 [v5_20] (upto C_21 2) (fun v37_29 =>
 oH Tryd.prog (Go.Op.load 3 (.tmp 0)) 3 [v37_29] (upto C_21 2) (fun v38_30 =>
 oH Tryd.prog (Go.Op.binOp Go.BinOp.mul 3 (.tmp 0) (.tmp 1) 3) 3 [v38_30, (.int .i64 64)] (upto C_21 2) (fun v39_31 =>
 oM Tryd.prog (Go.Op.alloc 100) 0 [] (fun v6_32 w => C_21 1 w ∧ (
 oM Tryd.prog (Go.Op.store 100 (.tmp 0) (.tmp 1)) 0 [v6_32, v36_28] (fun _ w => C_21 2 w ∧ (
 C_21 3 w ∧ (oM Tryd.prog (Go.Op.call (Go.Call.mk (Go.Callee.builtin Go.Builtin.len) #[(.tmp 0)] #[22])) 3 [a1] (fun v41_34 w =>
 oM Tryd.prog (Go.Op.binOp Go.BinOp.eql 3 (.tmp 0) (.const (.int .i64 0)) 3) 4 [v41_34] (fun v42_35 w =>
 gdM (gd v42_35 false) (pureM a1) (fun v44_36 w =>
 gdM (gd v42_35 false) (pureM x) (fun v45_37 w =>
 gdM (gd v42_35 false) (pureM a1) (fun v46_38 w =>
 gdM (gd v42_35 false) (oM Tryd.prog (Go.Op.call (Go.Call.mk (Go.Callee.builtin Go.Builtin.len) #[(.tmp 0)] #[22])) 3 [v46_38]) (fun v47_39 w =>
 gdM (gd v42_35 false) (oM Tryd.prog (Go.Op.binOp Go.BinOp.rem 3 (.tmp 0) (.tmp 1) 3) 3 [v45_37, v47_39]) (fun v48_40 w =>
 gdM (gd v42_35 false) (oM Tryd.prog (Go.Op.indexAddr 22 (.tmp 0) (.tmp 1)) 0 [v44_36, v48_40]) (fun v49_41 w =>
 gdM (gd v42_35 false) (oM Tryd.prog (Go.Op.load 3 (.tmp 0)) 3 [v49_41]) (fun v50_42 w =>
 gdM (gd v42_35 false) (oM Tryd.prog (Go.Op.binOp Go.BinOp.and 3 (.tmp 0) (.tmp 1) 3) 3 [v50_42, (.int .i64 1)]) (fun v51_43 w =>
 gdM (gd v42_35 false) (oM Tryd.prog (Go.Op.binOp Go.BinOp.eql 3 (.tmp 0) (.const (.int .i64 0)) 3) 4 [v51_43]) (fun v52_44 w =>
 oM Tryd.prog (Go.Op.pick (.tmp 0) (.tmp 1) (.tmp 2)) 4 [v42_35, (.bool true), v52_44] (fun v53_45 w =>
 gdM (gd v53_45 false) (pureM v39_31) (fun v55_46 w =>
 gdM (gd v53_45 false) (oM Tryd.prog (Go.Op.fieldAddr 100 (.tmp 0) 0) 0 [v6_32]) (fun v56_47 w =>
 gdM (gd v53_45 false) (oM Tryd.prog (Go.Op.load 9 (.tmp 0)) 9 [v56_47]) (fun v57_48 w =>
 gdM (gd v53_45 false) (oM Tryd.prog (Go.Op.call (Go.Call.mk (Go.Callee.builtin Go.Builtin.len) #[(.tmp 0)] #[9])) 3 [v57_48]) (fun v58_49 w =>
 gdM (gd v53_45 false) (oM Tryd.prog (Go.Op.binOp Go.BinOp.geq 3 (.tmp 0) (.tmp 1) 3) 4 [v55_46, v58_49]) (fun v59_50 w =>
 oM Tryd.prog (Go.Op.pick (.tmp 0) (.tmp 1) (.tmp 2)) 4 [v53_45, (.bool true), v59_50] (fun v60_51 w =>
 condM v60_51
 (M_16 [x, v39_31] w)
 (stageM w (fun C_52 w => (oH Tryd.prog (Go.Op.fieldAddr 100 (.tmp 0) 1) 0 [v6_32] (upto C_52 0) (fun v61_53 =>
 oH Tryd.prog (Go.Op.load 9 (.tmp 0)) 9 [v61_53] (upto C_52 0) (fun v62_54 =>
 pureH v39_31 (upto C_52 0) (fun v63_55 =>
 oH Tryd.prog (Go.Op.fieldAddr 100 (.tmp 0) 0) 0 [v6_32] (upto C_52 0) (fun v64_56 =>
 oH Tryd.prog (Go.Op.load 9 (.tmp 0)) 9 [v64_56] (upto C_52 0) (fun v65_57 =>
 pureH v39_31 (upto C_52 0) (fun v66_58 =>
 pureH v39_31 (upto C_52 0) (fun v67_59 =>
 oH Tryd.prog (Go.Op.binOp Go.BinOp.add 3 (.tmp 0) (.tmp 1) 3) 3 [v67_59, (.int .i64 64)] (upto C_52 0) (fun v68_60 =>
 oH Tryd.prog (Go.Op.fieldAddr 100 (.tmp 0) 0) 0 [v6_32] (upto C_52 0) (fun v69_61 =>
 oH Tryd.prog (Go.Op.load 9 (.tmp 0)) 9 [v69_61] (upto C_52 0) (fun v70_62 =>
 oH Tryd.prog (Go.Op.call (Go.Call.mk (Go.Callee.builtin Go.Builtin.len) #[(.tmp 0)] #[9])) 3 [v70_62] (upto C_52 0) (fun v71_63 =>
 oH Tryd.prog (Go.Op.call (Go.Call.mk (Go.Callee.builtin Go.Builtin.min) #[(.tmp 0), (.tmp 1)] #[3, 3])) 3 [v68_60, v71_63] (upto C_52 0) (fun v72_64 =>
 oH Tryd.prog (Go.Op.slice 9 (.tmp 0) (some (.tmp 1)) (some (.tmp 2)) none) 9 [v65_57, v66_58, v72_64] (upto C_52 0) (fun v73_65 =>
 callM Tryd.prog 88 #[v62_54, v63_55, v73_65] (fun v74_66 w => C_52 1 w ∧ (
 oM Tryd.prog (Go.Op.fieldAddr 100 (.tmp 0) 1) 0 [v6_32] (fun v75_67 w => C_52 2 w ∧ (
 oM Tryd.prog (Go.Op.store 9 (.tmp 0) (.tmp 1)) 0 [v75_67, v74_66] (fun _ w => C_52 3 w ∧ (
 stageM w (fun C_68 w => (pureH a0 (upto C_68 0) (fun v76_69 =>
 oH Tryd.prog (Go.Op.nilCheck (.tmp 0)) 0 [v76_69] (upto C_68 0) (fun v77_70 =>
 oH Tryd.prog (Go.Op.fieldAddr 92 (.tmp 0) 0) 0 [v77_70] (upto C_68 0) (fun v78_71 =>
 oH Tryd.prog (Go.Op.load 88 (.tmp 0)) 88 [v78_71] (upto C_68 0) (fun v79_72 =>
 oH Tryd.prog (Go.Op.fieldAddr 103 (.tmp 0) 0) 0 [v5_20] (upto C_68 0) (fun v80_73 =>
 oH Tryd.prog (Go.Op.load 3 (.tmp 0)) 3 [v80_73] (upto C_68 0) (fun v81_74 =>
 oH Tryd.prog (Go.Op.load 100 (.tmp 0)) 100 [v6_32] (upto C_68 0) (fun v82_75 =>
 oM Tryd.prog (Go.Op.mapUpdate 88 (.tmp 0) (.tmp 1) (.tmp 2)) 0 [v79_72, v81_74, v82_75] (fun _ w => C_68 1 w ∧ (
 M_16 [x, v39_31] w)) w))))))))))) w)) w)) w))))))))))))))))) w) w) w) w) w) w) w) w) w) w) w) w) w) w) w) w) w) w))) w)) w))))))))))))) w) w) w) w)
theorem survAll_snoc (keep : List Int) (q : List (Int × Int)) (p : Int × Int) (F : Int → Bs × Bs) (i : Nat) : survAll keep F i (q ++ [p]) = survF keep (survAll keep F i q) (i + q.length) p := by
  induction q generalizing F i with
  | nil => rfl
  | cons r q ih =>
    show survAll keep (survF keep F i r) (i + 1) (q ++ [p]) = survF keep (survAll keep (survF keep F i r) (i + 1) q) (i + (q.length + 1)) p
    rw [ih]
    congr 1
    omega
section
variable {w : World} {b : Nat} {A : Ab} {h : Dk} {K : Value → World → Prop}
theorem IsDk.reF (d : IsDk w b A h) {F : Int → Bs × Bs} (e : F = A.F) : IsDk w b { A with F := F } h := by
  rw [e]; exact d
set_option maxHeartbeats 1000000 in
theorem crMid_ok {n m i : Nat} {p : Int × Int} {M : List Value → World → Prop} (d : IsDk w b A h) (hp : w.heap[n]? = some (.cells #[.int .i64 p.1, .int .i64 p.2] 103 (0, 0))) {cur : Array Value} (hm : w.heap[m]? = some (.cells cur 100 (0, 0))) (hc0 : cur[0]? = some (bsV (A.F p.1).1)) (hc1 : cur[1]? = some (bsV (A.F p.1).2)) (hs : cur.size = 2)
    (hn : ¬ Own b h n) (hm' : ¬ Own b h m) (hm2 : ¬ Rdb h m) (hnm : n ≠ m) (h0 : 0 ≤ p.2 ∧ p.2 < 262144) (hi : i < 2 ^ 40) {kv : Value} {kl : List Int} (hkr : RowR intC 1 w kv kl) (hkl : kl.length < 2 ^ 62)
    (k : ∀ w', IsDk w' b { A with F := survF kl A.F i p } h → Fr (fun j => Own b h j ∨ j = m) w w' → M [.int .i64 (i : Int), .int .i64 (64 * p.2)] w') : crMid (dkP b) kv (.pointer (some ⟨n, 0, none⟩)) (.pointer (some ⟨m, 0, none⟩)) (.int .i64 (64 * p.2)) (.int .i64 (i : Int)) M w := by
  unfold crMid
  have z7 := cell_of_block hm 0
  have z71 := cell_of_block hm 1
  have hsz := d.wf.sz p.1
  have hlen : (A.F p.1).1.length ≤ 16777216 := hsz.1
  rw [hc0] at z7
  rw [hc1] at z71
  obtain ⟨ad, c, rfl, h0', hc⟩ := id hkr
  by_cases hkn : kl = []
  · subst hkn
    have hsv : survF [] A.F i p = A.F := by unfold survF; rw [if_pos (.inl rfl)]
    repeat (any_goals (first
    | (with_reducible refine pureM_in ?_)
    | (with_reducible first|refine pureQ_in ?_|refine gdQ_conv (fun _ => ?_)|refine pickQT ?_|refine pickQF ?_|refine pickQ_pos (by first|assumption|omega) ?_|refine pickQ_neg (by first|assumption|omega) ?_|refine pickQn_pos (by first|assumption|omega) ?_|refine pickQn_neg (by first|assumption|omega) ?_) | ((with_reducible refine oQ_one ?_ ?_); exact ⟨_, rfl⟩) | (with_reducible first|refine And.intro (Eq.refl (α := World) _) ?_|refine forall_one ?_|refine oQ_nil ?_) | (with_reducible refine oQ_of ⟨_, rfl⟩ (fun W0 hW0 => by (refine oM_gen (fun Kv hK => ?_)); simp [go_sem]; (first | exact hK _ _ ⟨rfl, rfl⟩ | exact ⟨by omega, hK _ _ ⟨rfl, rfl⟩⟩)) ?_)
    | (with_reducible first|refine gdtT ?_|refine gdtF ?_|refine gdfF ?_|refine gdfT ?_|refine gdu ?_ _|refine gdt_pos (by first|assumption|omega) ?_|refine gdt_neg (by first|assumption|omega) ?_|refine gdt_split (fun hg => ?_) (fun hg => ?_)|refine gdf_pos (by first|assumption|omega) ?_|refine gdf_neg (by first|assumption|omega) ?_|refine gdf_split (fun hg => ?_) (fun hg => ?_)|refine gdtn_pos (by first|assumption|omega) ?_|refine gdtn_neg (by first|assumption|omega) ?_|refine gdtn_split (fun hg => ?_) (fun hg => ?_)|refine gdfn_pos (by first|assumption|omega) ?_|refine gdfn_neg (by first|assumption|omega) ?_|refine gdfn_split (fun hg => ?_) (fun hg => ?_)|refine gdtbn_pos (by assumption) ?_|refine gdtbn_neg (by assumption) ?_|refine gdfbn_pos (by assumption) ?_|refine gdfbn_neg (by assumption) ?_|refine gdtb_pos (by assumption) ?_|refine gdtb_neg (by assumption) ?_|refine gdtb_split (fun hg => ?_) (fun hg => ?_)|refine gdfb_pos (by assumption) ?_|refine gdfb_neg (by assumption) ?_|refine gdfb_split (fun hg => ?_) (fun hg => ?_)|refine pickT ?_|refine pickF ?_|refine pick_pos (by first|assumption|omega) ?_|refine pick_neg (by first|assumption|omega) ?_|refine pickn_pos (by first|assumption|omega) ?_|refine pickn_neg (by first|assumption|omega) ?_|refine pickbn_pos (by assumption) ?_|refine pickbn_neg (by assumption) ?_|refine pickb_pos (by assumption) ?_|refine pickb_neg (by assumption) ?_|refine condT ?_|refine condF ?_|refine cond_pos (by first|assumption|omega) ?_|refine cond_neg (by first|assumption|omega) ?_|refine condM_dec (fun hg => ?_) (fun hg => ?_)|refine condn_pos (by first|assumption|omega) ?_|refine condn_neg (by first|assumption|omega) ?_|refine condM_ndec (fun hg => ?_) (fun hg => ?_)|refine condbn_pos (by assumption) ?_|refine condbn_neg (by assumption) ?_|refine condbn_split (fun hg => ?_) (fun hg => ?_)|refine condb_pos (by assumption) ?_|refine condb_neg (by assumption) ?_|refine condM_b (fun hg => ?_) (fun hg => ?_))
    | ((with_reducible refine oM_gen (fun Kv hK => ?_)); simp [go_sem]; (try simp (disch := omega) only [wrapI64, wrapU8, wrapU32, wrapU64]); (first | refine hK _ _ ?_ | refine And.intro (by omega) (hK _ _ ?_)); clear hK; clear Kv)))
    exact k w (d.reF hsv) (Fr.refl _ _)
  · rcases hc with hc | ⟨kb, ko, rfl, hkb, hc⟩
    · exact absurd hc hkn
    have hkpos : 0 < kl.length := List.length_pos_iff.2 hkn
    have hmod : ((i : Int)).tmod (kl.length : Int) = ((i % kl.length : Nat) : Int) := by
      rw [tmodN _ _ (by omega)]; rfl
    have hml : i % kl.length < kl.length := Nat.mod_lt _ hkpos
    have hki := hc (i % kl.length) (i64V kl[i % kl.length]) (by rw [show flat intC kl = kl.map i64V from flat_one i64V kl]; simp [hml])
    unfold i64V at hki
    have hixk : (Instr.indexAt 22 (.slice (some ⟨kb, ko, none⟩) kl.length c) (.int .i64 ((i % kl.length : Nat) : Int))).run Tryd.prog w = .ok (.pointer (some ⟨kb, ko + i % kl.length, none⟩)) w := by
      rw [run_indexAt_slice (h := by kernel_rfl), if_pos (by omega)]
      have hs : (sizeOf (Tryd.prog.elem 22)).run Tryd.prog w = .ok 1 w := by kernel_rfl
      rw [hs]
      simp only [Result.andThen, Int.toNat_natCast, add_none, Nat.mul_one]
    rw [Int.natCast_emod] at hixk
    have hgd : kl.getD (i % kl.length) 0 = kl[i % kl.length] := by simp [List.getD, hml]
    clear hkr hc h0'
    obtain ⟨kx, hkx⟩ : ∃ kx, kx = kl[i % kl.length] := ⟨_, rfl⟩
    rw [← hkx] at hki hgd
    clear hkx
    repeat (any_goals (first
    | (with_reducible refine pureM_in ?_)
    | (with_reducible first|refine pureQ_in ?_|refine gdQ_conv (fun _ => ?_)|refine pickQT ?_|refine pickQF ?_|refine pickQ_pos (by first|assumption|omega) ?_|refine pickQ_neg (by first|assumption|omega) ?_|refine pickQn_pos (by first|assumption|omega) ?_|refine pickQn_neg (by first|assumption|omega) ?_) | ((with_reducible refine oQ_one ?_ ?_); exact ⟨_, rfl⟩) | (with_reducible first|refine And.intro (Eq.refl (α := World) _) ?_|refine forall_one ?_|refine oQ_nil ?_) | (with_reducible refine oQ_of ⟨_, rfl⟩ (fun W0 hW0 => by (refine oM_gen (fun Kv hK => ?_)); simp [go_sem]; (first | exact hK _ _ ⟨rfl, rfl⟩ | exact ⟨by omega, hK _ _ ⟨rfl, rfl⟩⟩)) ?_)
    | (with_reducible first|refine gdtT ?_|refine gdtF ?_|refine gdfF ?_|refine gdfT ?_|refine gdu ?_ _|refine gdt_pos (by first|assumption|omega) ?_|refine gdt_neg (by first|assumption|omega) ?_|refine gdt_split (fun hg => ?_) (fun hg => ?_)|refine gdf_pos (by first|assumption|omega) ?_|refine gdf_neg (by first|assumption|omega) ?_|refine gdf_split (fun hg => ?_) (fun hg => ?_)|refine gdtn_pos (by first|assumption|omega) ?_|refine gdtn_neg (by first|assumption|omega) ?_|refine gdtn_split (fun hg => ?_) (fun hg => ?_)|refine gdfn_pos (by first|assumption|omega) ?_|refine gdfn_neg (by first|assumption|omega) ?_|refine gdfn_split (fun hg => ?_) (fun hg => ?_)|refine gdtbn_pos (by assumption) ?_|refine gdtbn_neg (by assumption) ?_|refine gdfbn_pos (by assumption) ?_|refine gdfbn_neg (by assumption) ?_|refine gdtb_pos (by assumption) ?_|refine gdtb_neg (by assumption) ?_|refine gdtb_split (fun hg => ?_) (fun hg => ?_)|refine gdfb_pos (by assumption) ?_|refine gdfb_neg (by assumption) ?_|refine gdfb_split (fun hg => ?_) (fun hg => ?_)|refine pickT ?_|refine pickF ?_|refine pick_pos (by first|assumption|omega) ?_|refine pick_neg (by first|assumption|omega) ?_|refine pickn_pos (by first|assumption|omega) ?_|refine pickn_neg (by first|assumption|omega) ?_|refine pickbn_pos (by assumption) ?_|refine pickbn_neg (by assumption) ?_|refine pickb_pos (by assumption) ?_|refine pickb_neg (by assumption) ?_|refine condT ?_|refine condF ?_|refine cond_pos (by first|assumption|omega) ?_|refine cond_neg (by first|assumption|omega) ?_|refine condM_dec (fun hg => ?_) (fun hg => ?_)|refine condn_pos (by first|assumption|omega) ?_|refine condn_neg (by first|assumption|omega) ?_|refine condM_ndec (fun hg => ?_) (fun hg => ?_)|refine condbn_pos (by assumption) ?_|refine condbn_neg (by assumption) ?_|refine condbn_split (fun hg => ?_) (fun hg => ?_)|refine condb_pos (by assumption) ?_|refine condb_neg (by assumption) ?_|refine condM_b (fun hg => ?_) (fun hg => ?_))
    | ((with_reducible refine oM_gen (fun Kv hK => ?_)); simp [go_sem, hmod, hixk, hki, z7, z71]; (try simp (disch := omega) only [wrapI64, wrapU8, wrapU32, wrapU64]); (first | refine hK _ _ ?_ | refine And.intro (by omega) (hK _ _ ?_)); clear hK; clear Kv)))
    · have hsv : survF kl A.F i p = A.F := by unfold survF; rw [if_pos (.inr (.inl (by rw [hgd]; assumption)))]
      exact k w (d.reF hsv) (Fr.refl _ _)
    · have hsv : survF kl A.F i p = A.F := by unfold survF; rw [if_pos (.inr (.inr (by assumption)))]
      exact k w (d.reF hsv) (Fr.refl _ _)
    · have hbig : ¬ ((A.F p.1).1.length : Int) ≤ 64 * p.2 := by assumption
      have hodd : ¬ kx % 2 = 0 := by assumption
      have hsv : survF kl A.F i p = setF A.F p.1 ((A.F p.1).1, putB (A.F p.1).2 (64 * p.2).toNat (DkSpec.sector (A.F p.1).1 p.2)) := by
        unfold survF
        rw [if_neg]
        rw [hgd]
        rintro (h | h | h)
        · exact hkn h
        · exact hodd h
        · exact hbig h
      refine crTail_ok (n := n) (m := m) (p := p) d hp hm hc0 hc1 hs hn hm' hm2 hnm h0 (by omega) (fun w8 d8 f8 => ?_)
      refine k w8 ?_ f8
      rw [hsv]
      exact d8
set_option maxHeartbeats 1000000 in
theorem crBody_ok {i : Nat} {p : Int × Int} {M : List Value → World → Prop} (d : IsDk w b A h) {qa : Option Addr} {qc : Nat} (hq : h.q = .slice qa A.queue.length qc) (hqi : A.queue[i]? = some p) {kv : Value} {kl : List Int} (hkr : RowR intC 1 w kv kl) (hkl : kl.length < 2 ^ 62)
    (k : ∀ w' (at_ : Int), IsDk w' b { A with F := survF kl A.F i p } h → Step w b h w' h → M [.int .i64 (i : Int), .int .i64 at_] w') : crBody (dkP b) kv (.slice qa A.queue.length qc) (.int .i64 (i : Int)) M w := by
  unfold crBody
  have hlt : i < A.queue.length := (List.getElem?_eq_some_iff.1 hqi).1
  have hql := d.wf.ql
  have hpr := d.wf.qr p (List.mem_of_getElem? hqi)
  have ho3 := d.que
  rw [hq] at ho3
  obtain ⟨g, c, hv, e0, e1⟩ := sec_cells ho3 hqi
  cases hv
  have hix := idxSec (c := qc) (g := g) hlt w
  repeat (any_goals (first
  | (with_reducible refine pureM_in ?_)
  | (with_reducible first|refine pureQ_in ?_|refine gdQ_conv (fun _ => ?_)|refine pickQT ?_|refine pickQF ?_|refine pickQ_pos (by first|assumption|omega) ?_|refine pickQ_neg (by first|assumption|omega) ?_|refine pickQn_pos (by first|assumption|omega) ?_|refine pickQn_neg (by first|assumption|omega) ?_) | ((with_reducible refine oQ_one ?_ ?_); exact ⟨_, rfl⟩) | (with_reducible first|refine And.intro (Eq.refl (α := World) _) ?_|refine forall_one ?_|refine oQ_nil ?_) | (with_reducible refine oQ_of ⟨_, rfl⟩ (fun W0 hW0 => by (refine oM_gen (fun Kv hK => ?_)); simp [go_sem]; (first | exact hK _ _ ⟨rfl, rfl⟩ | exact ⟨by omega, hK _ _ ⟨rfl, rfl⟩⟩)) ?_)
  | (with_reducible first|refine gdtT ?_|refine gdtF ?_|refine gdfF ?_|refine gdfT ?_|refine gdu ?_ _|refine gdt_pos (by first|assumption|omega) ?_|refine gdt_neg (by first|assumption|omega) ?_|refine gdt_split (fun hg => ?_) (fun hg => ?_)|refine gdf_pos (by first|assumption|omega) ?_|refine gdf_neg (by first|assumption|omega) ?_|refine gdf_split (fun hg => ?_) (fun hg => ?_)|refine gdtn_pos (by first|assumption|omega) ?_|refine gdtn_neg (by first|assumption|omega) ?_|refine gdtn_split (fun hg => ?_) (fun hg => ?_)|refine gdfn_pos (by first|assumption|omega) ?_|refine gdfn_neg (by first|assumption|omega) ?_|refine gdfn_split (fun hg => ?_) (fun hg => ?_)|refine gdtbn_pos (by assumption) ?_|refine gdtbn_neg (by assumption) ?_|refine gdfbn_pos (by assumption) ?_|refine gdfbn_neg (by assumption) ?_|refine gdtb_pos (by assumption) ?_|refine gdtb_neg (by assumption) ?_|refine gdtb_split (fun hg => ?_) (fun hg => ?_)|refine gdfb_pos (by assumption) ?_|refine gdfb_neg (by assumption) ?_|refine gdfb_split (fun hg => ?_) (fun hg => ?_)|refine pickT ?_|refine pickF ?_|refine pick_pos (by first|assumption|omega) ?_|refine pick_neg (by first|assumption|omega) ?_|refine pickn_pos (by first|assumption|omega) ?_|refine pickn_neg (by first|assumption|omega) ?_|refine pickbn_pos (by assumption) ?_|refine pickbn_neg (by assumption) ?_|refine pickb_pos (by assumption) ?_|refine pickb_neg (by assumption) ?_|refine condT ?_|refine condF ?_|refine cond_pos (by first|assumption|omega) ?_|refine cond_neg (by first|assumption|omega) ?_|refine condM_dec (fun hg => ?_) (fun hg => ?_)|refine condn_pos (by first|assumption|omega) ?_|refine condn_neg (by first|assumption|omega) ?_|refine condM_ndec (fun hg => ?_) (fun hg => ?_)|refine condbn_pos (by assumption) ?_|refine condbn_neg (by assumption) ?_|refine condbn_split (fun hg => ?_) (fun hg => ?_)|refine condb_pos (by assumption) ?_|refine condb_neg (by assumption) ?_|refine condM_b (fun hg => ?_) (fun hg => ?_))
  | ((with_reducible refine oM_gen (fun Kv hK => ?_)); simp [go_sem, hix, e0, e1]; (try simp (disch := omega) only [wrapI64, wrapU8, wrapU32, wrapU64]); (first | refine hK _ _ ?_ | refine And.intro (by omega) (hK _ _ ?_)); clear hK; clear Kv)))
  have pf : Fr (fun _ => False) w (w.alloc (.cells #[.int .i64 p.1, .int .i64 p.2] 103 (0, 0))) := (Fr.refl _ _).alloc _
  have p0 := heap_alloc_new w (.cells #[.int .i64 p.1, .int .i64 p.2] 103 (0, 0))
  have pz := alloc_size w (.cells #[.int .i64 p.1, .int .i64 p.2] 103 (0, 0))
  generalize w.alloc (.cells #[.int .i64 p.1, .int .i64 p.2] 103 (0, 0)) = w4 at *
  have d4 := d.fresh pf
  have p00 := cell_of_block p0 0
  have p01 := cell_of_block p0 1
  simp at p00 p01
  have c0 := d4.c 0
  simp only [dkCells] at c0
  have lk : ∀ W : World, IsDk W b A h → _ := fun W hW => hW.look p.1
  simp only [flV, bsV] at lk
  have hwr : IntKind.i64.wrap (p.2 * 64) = 64 * p.2 := by rw [wrapI64 _ (by omega) (by omega)]; omega
  refine ⟨fun sg w' => sg ≤ 2 → IsDk w' b A h ∧ w'.heap[w.heap.size]? = some (.cells #[.int .i64 p.1, .int .i64 p.2] 103 (0, 0)), fun _ => ⟨d4.heap rfl, p0⟩, ?_⟩
  repeat (first | (with_reducible refine pureH_in ?_) | (with_reducible refine oH_nil ?_) | (with_reducible refine gdH_true rfl ?_) | (with_reducible refine gdH_false rfl ?_) | (refine oH_of ⟨_, rfl⟩ (fun W0 hW0 => by (obtain ⟨s0, hs0, hC⟩ := hW0); (refine oM_gen (fun Kv hK => ?_)); simp [go_sem, cell_of_block (hC (by omega)).1.blk, cell_of_block (hC (by omega)).2, dkCells, lk W0 (hC (by omega)).1, hwr]; (first | exact hK _ _ ⟨rfl, rfl⟩ | exact ⟨by omega, hK _ _ ⟨rfl, rfl⟩⟩)) ?_))
  generalize hw5 : ({ w4 with drawn := w4.drawn + 1 } : World) = w5
  have f35 : Fr (fun _ => False) w w5 := by rw [← hw5]; exact pf.drew
  have d5 := d.fresh f35
  have p5 : w5.heap[w.heap.size]? = some (.cells #[.int .i64 p.1, .int .i64 p.2] 103 (0, 0)) := by rw [← hw5]; exact p0
  clear hw5
  repeat (any_goals (first
  | (with_reducible refine pureM_in ?_)
  | (with_reducible first|refine pureQ_in ?_|refine gdQ_conv (fun _ => ?_)|refine pickQT ?_|refine pickQF ?_|refine pickQ_pos (by first|assumption|omega) ?_|refine pickQ_neg (by first|assumption|omega) ?_|refine pickQn_pos (by first|assumption|omega) ?_|refine pickQn_neg (by first|assumption|omega) ?_) | ((with_reducible refine oQ_one ?_ ?_); exact ⟨_, rfl⟩) | (with_reducible first|refine And.intro (Eq.refl (α := World) _) ?_|refine forall_one ?_|refine oQ_nil ?_) | (with_reducible refine oQ_of ⟨_, rfl⟩ (fun W0 hW0 => by (refine oM_gen (fun Kv hK => ?_)); simp [go_sem]; (first | exact hK _ _ ⟨rfl, rfl⟩ | exact ⟨by omega, hK _ _ ⟨rfl, rfl⟩⟩)) ?_)
  | (with_reducible first|refine gdtT ?_|refine gdtF ?_|refine gdfF ?_|refine gdfT ?_|refine gdu ?_ _|refine gdt_pos (by first|assumption|omega) ?_|refine gdt_neg (by first|assumption|omega) ?_|refine gdt_split (fun hg => ?_) (fun hg => ?_)|refine gdf_pos (by first|assumption|omega) ?_|refine gdf_neg (by first|assumption|omega) ?_|refine gdf_split (fun hg => ?_) (fun hg => ?_)|refine gdtn_pos (by first|assumption|omega) ?_|refine gdtn_neg (by first|assumption|omega) ?_|refine gdtn_split (fun hg => ?_) (fun hg => ?_)|refine gdfn_pos (by first|assumption|omega) ?_|refine gdfn_neg (by first|assumption|omega) ?_|refine gdfn_split (fun hg => ?_) (fun hg => ?_)|refine gdtbn_pos (by assumption) ?_|refine gdtbn_neg (by assumption) ?_|refine gdfbn_pos (by assumption) ?_|refine gdfbn_neg (by assumption) ?_|refine gdtb_pos (by assumption) ?_|refine gdtb_neg (by assumption) ?_|refine gdtb_split (fun hg => ?_) (fun hg => ?_)|refine gdfb_pos (by assumption) ?_|refine gdfb_neg (by assumption) ?_|refine gdfb_split (fun hg => ?_) (fun hg => ?_)|refine pickT ?_|refine pickF ?_|refine pick_pos (by first|assumption|omega) ?_|refine pick_neg (by first|assumption|omega) ?_|refine pickn_pos (by first|assumption|omega) ?_|refine pickn_neg (by first|assumption|omega) ?_|refine pickbn_pos (by assumption) ?_|refine pickbn_neg (by assumption) ?_|refine pickb_pos (by assumption) ?_|refine pickb_neg (by assumption) ?_|refine condT ?_|refine condF ?_|refine cond_pos (by first|assumption|omega) ?_|refine cond_neg (by first|assumption|omega) ?_|refine condM_dec (fun hg => ?_) (fun hg => ?_)|refine condn_pos (by first|assumption|omega) ?_|refine condn_neg (by first|assumption|omega) ?_|refine condM_ndec (fun hg => ?_) (fun hg => ?_)|refine condbn_pos (by assumption) ?_|refine condbn_neg (by assumption) ?_|refine condbn_split (fun hg => ?_) (fun hg => ?_)|refine condb_pos (by assumption) ?_|refine condb_neg (by assumption) ?_|refine condM_b (fun hg => ?_) (fun hg => ?_))
  | ((with_reducible refine oM_gen (fun Kv hK => ?_)); simp [go_sem]; (try simp (disch := omega) only [wrapI64, wrapU8, wrapU32, wrapU64]); (first | refine hK _ _ ?_ | refine And.intro (by omega) (hK _ _ ?_)); clear hK; clear Kv)))
  have z35 := f35.size
  have p5l := (Array.getElem?_eq_some_iff.1 p5).1
  have g6 : Fr (fun _ => False) w5 (w5.alloc (.cells #[.string ⟨#[]⟩, .string ⟨#[]⟩] 100 (0, 0))) := (Fr.refl _ _).alloc _
  have n6 := heap_alloc_new w5 (.cells #[.string ⟨#[]⟩, .string ⟨#[]⟩] 100 (0, 0))
  generalize w5.alloc (.cells #[.string ⟨#[]⟩, .string ⟨#[]⟩] 100 (0, 0)) = w6 at *
  refine ⟨fun _ => ⟨d5.fresh g6, (g6.block _ p5l (fun h => h)).trans p5⟩, ?_⟩
  refine store2_at (fun w => by kernel_rfl) rfl rfl n6 (by simp) (fun w7 cur7 g7 n7 s7 _ a7 b7 => ?_)
  have f7 : Fr (fun _ => False) w5 w7 := g6.by g7 (fun i hi => by cases hi; exact .inr (Nat.le_refl _))
  have f37 := f35.trans f7 (fun _ h => h.elim)
  have d7 := d.fresh f37
  have p7 := (f7.block _ p5l (fun h => h)).trans p5
  refine ⟨fun _ => ⟨d7, p7⟩, fun hs => absurd hs (by decide), ?_⟩
  rw [Nat.zero_add] at b7
  have hz37 := f37.size
  have hown : ∀ i, Own b h i ∨ Rdb h i → i < w.heap.size := fun i hi => d.lt hi
  have hkr7 : RowR intC 1 w7 kv kl := hkr.keep hz37 (fun i _ hi => f37.block i hi (fun h => h))
  refine crMid_ok (n := w.heap.size) (m := w5.heap.size) (p := p) d7 p7 n7 a7 b7 (by rw [s7]; rfl) (fun e => by have := hown _ (.inl e); omega) (fun e => by have := hown _ (.inl e); omega) (fun e => by have := hown _ (.inr e); omega) (by omega) ⟨hpr.2.2.1, hpr.2.2.2⟩ (by omega) hkr7 hkl (fun w8 d8 f8 => ?_)
  exact k w8 _ d8 ⟨(f37.mono (fun i _ hi => hi.elim)).trans f8 (fun i hi => hi.elim .inl (fun e => .inr (by omega))), fun _ h => .inl h, fun _ h => .inl h⟩
set_option maxHeartbeats 1000000 in
theorem crash_ok (d : IsDk w b A h) {kv : Value} {kl : List Int} (hkr : RowR intC 1 w kv kl) (hkl : kl.length < 2 ^ 62) (hkv : ∀ w', Fr (Own b h) w w' → RowR intC 1 w' kv kl) (k : ∀ w' h', IsDk w' b (crashA A kl) h' → Step w b h w' h' → K (.tuple #[]) w') : callM Tryd.prog 62 #[dkP b, kv] K w := by
  apply sh_62_ok
  unfold sh_62
  have c4 := d.c 4
  have f4 := d.fz 4
  simp only [dkCells] at c4
  have d1 := d.set4 true
  have c5 := d1.c 5
  have f5 := d1.fz 5
  simp only [dkCells] at c5
  have d2 := d1.set5 0 (by omega)
  have c1 := d2.c 1
  simp only [dkCells] at c1
  obtain ⟨qa, qc, hq⟩ := owns_len d.que
  repeat (any_goals (first
  | (with_reducible refine pureM_in ?_)
  | (with_reducible first|refine pureQ_in ?_|refine gdQ_conv (fun _ => ?_)|refine pickQT ?_|refine pickQF ?_|refine pickQ_pos (by first|assumption|omega) ?_|refine pickQ_neg (by first|assumption|omega) ?_|refine pickQn_pos (by first|assumption|omega) ?_|refine pickQn_neg (by first|assumption|omega) ?_) | ((with_reducible refine oQ_one ?_ ?_); exact ⟨_, rfl⟩) | (with_reducible first|refine And.intro (Eq.refl (α := World) _) ?_|refine forall_one ?_|refine oQ_nil ?_) | (with_reducible refine oQ_of ⟨_, rfl⟩ (fun W0 hW0 => by (refine oM_gen (fun Kv hK => ?_)); simp [go_sem]; (first | exact hK _ _ ⟨rfl, rfl⟩ | exact ⟨by omega, hK _ _ ⟨rfl, rfl⟩⟩)) ?_)
  | (with_reducible first|refine gdtT ?_|refine gdtF ?_|refine gdfF ?_|refine gdfT ?_|refine gdu ?_ _|refine gdt_pos (by first|assumption|omega) ?_|refine gdt_neg (by first|assumption|omega) ?_|refine gdt_split (fun hg => ?_) (fun hg => ?_)|refine gdf_pos (by first|assumption|omega) ?_|refine gdf_neg (by first|assumption|omega) ?_|refine gdf_split (fun hg => ?_) (fun hg => ?_)|refine gdtn_pos (by first|assumption|omega) ?_|refine gdtn_neg (by first|assumption|omega) ?_|refine gdtn_split (fun hg => ?_) (fun hg => ?_)|refine gdfn_pos (by first|assumption|omega) ?_|refine gdfn_neg (by first|assumption|omega) ?_|refine gdfn_split (fun hg => ?_) (fun hg => ?_)|refine gdtbn_pos (by assumption) ?_|refine gdtbn_neg (by assumption) ?_|refine gdfbn_pos (by assumption) ?_|refine gdfbn_neg (by assumption) ?_|refine gdtb_pos (by assumption) ?_|refine gdtb_neg (by assumption) ?_|refine gdtb_split (fun hg => ?_) (fun hg => ?_)|refine gdfb_pos (by assumption) ?_|refine gdfb_neg (by assumption) ?_|refine gdfb_split (fun hg => ?_) (fun hg => ?_)|refine pickT ?_|refine pickF ?_|refine pick_pos (by first|assumption|omega) ?_|refine pick_neg (by first|assumption|omega) ?_|refine pickn_pos (by first|assumption|omega) ?_|refine pickn_neg (by first|assumption|omega) ?_|refine pickbn_pos (by assumption) ?_|refine pickbn_neg (by assumption) ?_|refine pickb_pos (by assumption) ?_|refine pickb_neg (by assumption) ?_|refine condT ?_|refine condF ?_|refine cond_pos (by first|assumption|omega) ?_|refine cond_neg (by first|assumption|omega) ?_|refine condM_dec (fun hg => ?_) (fun hg => ?_)|refine condn_pos (by first|assumption|omega) ?_|refine condn_neg (by first|assumption|omega) ?_|refine condM_ndec (fun hg => ?_) (fun hg => ?_)|refine condbn_pos (by assumption) ?_|refine condbn_neg (by assumption) ?_|refine condbn_split (fun hg => ?_) (fun hg => ?_)|refine condb_pos (by assumption) ?_|refine condb_neg (by assumption) ?_|refine condM_b (fun hg => ?_) (fun hg => ?_))
  | ((with_reducible refine oM_gen (fun Kv hK => ?_)); simp [go_sem, c4, f4, c5, f5, c1, hq]; (try simp (disch := omega) only [wrapI64, wrapU8, wrapU32, wrapU64]); (first | refine hK _ _ ?_ | refine And.intro (by omega) (hK _ _ ?_)); clear hK; clear Kv)))
  · have e : crashA A kl = A := by unfold crashA; rw [if_pos hg]
    rw [e] at k
    exact k w h d (Step.refl _ _ _)
  have hdown : A.down = false := hg
  have t2 : Step w b h ((w.setCell ⟨b, 4, none⟩ (.bool true)).setCell ⟨b, 5, none⟩ (.int .i64 0)) h := (step_set _ _ _ _ _).trans (step_set _ _ _ _ _)
  generalize (w.setCell ⟨b, 4, none⟩ (.bool true)).setCell ⟨b, 5, none⟩ (.int .i64 0) = w2 at *
  refine ⟨fun l w' => ∃ u1 u2, ∃ i : Nat, l = [u1, u2, .int .i64 (i : Int)] ∧ i ≤ A.queue.length ∧ IsDk w' b { A with F := survAll kl A.F 0 (A.queue.take i), down := true, armed := 0 } h ∧ Step w b h w' h, fun l _ => match l with | [_, _, .int _ n] => ((A.queue.length : Int) - n).toNat | _ => 0, ⟨_, _, 0, rfl, by omega, d2, t2⟩, ?_⟩
  rintro l u w3 ⟨u1, u2, i, rfl, hin, d3, t3⟩
  have hqlen := d.wf.ql
  simp only [List.getD_cons_zero, List.getD_cons_succ]
  repeat (any_goals (first
  | (with_reducible refine pureM_in ?_)
  | (with_reducible first|refine pureQ_in ?_|refine gdQ_conv (fun _ => ?_)|refine pickQT ?_|refine pickQF ?_|refine pickQ_pos (by first|assumption|omega) ?_|refine pickQ_neg (by first|assumption|omega) ?_|refine pickQn_pos (by first|assumption|omega) ?_|refine pickQn_neg (by first|assumption|omega) ?_) | ((with_reducible refine oQ_one ?_ ?_); exact ⟨_, rfl⟩) | (with_reducible first|refine And.intro (Eq.refl (α := World) _) ?_|refine forall_one ?_|refine oQ_nil ?_) | (with_reducible refine oQ_of ⟨_, rfl⟩ (fun W0 hW0 => by (refine oM_gen (fun Kv hK => ?_)); simp [go_sem]; (first | exact hK _ _ ⟨rfl, rfl⟩ | exact ⟨by omega, hK _ _ ⟨rfl, rfl⟩⟩)) ?_)
  | (with_reducible first|refine gdtT ?_|refine gdtF ?_|refine gdfF ?_|refine gdfT ?_|refine gdu ?_ _|refine gdt_pos (by first|assumption|omega) ?_|refine gdt_neg (by first|assumption|omega) ?_|refine gdt_split (fun hg => ?_) (fun hg => ?_)|refine gdf_pos (by first|assumption|omega) ?_|refine gdf_neg (by first|assumption|omega) ?_|refine gdf_split (fun hg => ?_) (fun hg => ?_)|refine gdtn_pos (by first|assumption|omega) ?_|refine gdtn_neg (by first|assumption|omega) ?_|refine gdtn_split (fun hg => ?_) (fun hg => ?_)|refine gdfn_pos (by first|assumption|omega) ?_|refine gdfn_neg (by first|assumption|omega) ?_|refine gdfn_split (fun hg => ?_) (fun hg => ?_)|refine gdtbn_pos (by assumption) ?_|refine gdtbn_neg (by assumption) ?_|refine gdfbn_pos (by assumption) ?_|refine gdfbn_neg (by assumption) ?_|refine gdtb_pos (by assumption) ?_|refine gdtb_neg (by assumption) ?_|refine gdtb_split (fun hg => ?_) (fun hg => ?_)|refine gdfb_pos (by assumption) ?_|refine gdfb_neg (by assumption) ?_|refine gdfb_split (fun hg => ?_) (fun hg => ?_)|refine pickT ?_|refine pickF ?_|refine pick_pos (by first|assumption|omega) ?_|refine pick_neg (by first|assumption|omega) ?_|refine pickn_pos (by first|assumption|omega) ?_|refine pickn_neg (by first|assumption|omega) ?_|refine pickbn_pos (by assumption) ?_|refine pickbn_neg (by assumption) ?_|refine pickb_pos (by assumption) ?_|refine pickb_neg (by assumption) ?_|refine condT ?_|refine condF ?_|refine cond_pos (by first|assumption|omega) ?_|refine cond_neg (by first|assumption|omega) ?_|refine condM_dec (fun hg => ?_) (fun hg => ?_)|refine condn_pos (by first|assumption|omega) ?_|refine condn_neg (by first|assumption|omega) ?_|refine condM_ndec (fun hg => ?_) (fun hg => ?_)|refine condbn_pos (by assumption) ?_|refine condbn_neg (by assumption) ?_|refine condbn_split (fun hg => ?_) (fun hg => ?_)|refine condb_pos (by assumption) ?_|refine condb_neg (by assumption) ?_|refine condM_b (fun hg => ?_) (fun hg => ?_))
  | ((with_reducible refine oM_gen (fun Kv hK => ?_)); simp [go_sem]; (try simp (disch := omega) only [wrapI64, wrapU8, wrapU32, wrapU64]); (first | refine hK _ _ ?_ | refine And.intro (by omega) (hK _ _ ?_)); clear hK; clear Kv)))
  · have hlt : i < A.queue.length := by omega
    obtain ⟨Fi, hFi⟩ : ∃ Fi, Fi = survAll kl A.F 0 (A.queue.take i) := ⟨_, rfl⟩
    rw [← hFi] at d3
    obtain ⟨p, hp⟩ : ∃ p, p = A.queue[i] := ⟨_, rfl⟩
    have hqi : A.queue[i]? = some p := by rw [hp]; exact List.getElem?_eq_getElem hlt
    have hnext : survAll kl A.F 0 (A.queue.take (i + 1)) = survF kl Fi i p := by
      rw [List.take_succ_eq_append_getElem hlt, survAll_snoc, ← hFi, hp, List.length_take, Nat.zero_add, Nat.min_eq_left (by omega)]
    have hkr3 : RowR intC 1 w3 kv kl := hkv _ t3.fr
    refine ⟨fun l w' => ∃ u1, ∃ at_ : Int, l = [u1, .int .i64 at_] ∧ IsDk w' b { A with F := survAll kl A.F 0 (A.queue.take (i + 1)), down := true, armed := 0 } h ∧ Step w b h w' h, ?_, ?_⟩
    · refine crBody_ok (M := fun l w' => ∃ u1, ∃ at_ : Int, l = [u1, .int .i64 at_] ∧ IsDk w' b { A with F := survAll kl A.F 0 (A.queue.take (i + 1)), down := true, armed := 0 } h ∧ Step w b h w' h) (p := p) d3 hq hqi hkr3 hkl (fun w' at_ d' t' => ⟨_, at_, rfl, ?_, t3.trans t'⟩)
      rw [hnext]
      exact d'
    · rintro l u w4 ⟨u3, at_, rfl, d4, t4⟩
      simp only [List.getD_cons_zero, List.getD_cons_succ]
      repeat (any_goals (first
      | (with_reducible refine pureM_in ?_)
      | (with_reducible first|refine pureQ_in ?_|refine gdQ_conv (fun _ => ?_)|refine pickQT ?_|refine pickQF ?_|refine pickQ_pos (by first|assumption|omega) ?_|refine pickQ_neg (by first|assumption|omega) ?_|refine pickQn_pos (by first|assumption|omega) ?_|refine pickQn_neg (by first|assumption|omega) ?_) | ((with_reducible refine oQ_one ?_ ?_); exact ⟨_, rfl⟩) | (with_reducible first|refine And.intro (Eq.refl (α := World) _) ?_|refine forall_one ?_|refine oQ_nil ?_) | (with_reducible refine oQ_of ⟨_, rfl⟩ (fun W0 hW0 => by (refine oM_gen (fun Kv hK => ?_)); simp [go_sem]; (first | exact hK _ _ ⟨rfl, rfl⟩ | exact ⟨by omega, hK _ _ ⟨rfl, rfl⟩⟩)) ?_)
      | (with_reducible first|refine gdtT ?_|refine gdtF ?_|refine gdfF ?_|refine gdfT ?_|refine gdu ?_ _|refine gdt_pos (by first|assumption|omega) ?_|refine gdt_neg (by first|assumption|omega) ?_|refine gdt_split (fun hg => ?_) (fun hg => ?_)|refine gdf_pos (by first|assumption|omega) ?_|refine gdf_neg (by first|assumption|omega) ?_|refine gdf_split (fun hg => ?_) (fun hg => ?_)|refine gdtn_pos (by first|assumption|omega) ?_|refine gdtn_neg (by first|assumption|omega) ?_|refine gdtn_split (fun hg => ?_) (fun hg => ?_)|refine gdfn_pos (by first|assumption|omega) ?_|refine gdfn_neg (by first|assumption|omega) ?_|refine gdfn_split (fun hg => ?_) (fun hg => ?_)|refine gdtbn_pos (by assumption) ?_|refine gdtbn_neg (by assumption) ?_|refine gdfbn_pos (by assumption) ?_|refine gdfbn_neg (by assumption) ?_|refine gdtb_pos (by assumption) ?_|refine gdtb_neg (by assumption) ?_|refine gdtb_split (fun hg => ?_) (fun hg => ?_)|refine gdfb_pos (by assumption) ?_|refine gdfb_neg (by assumption) ?_|refine gdfb_split (fun hg => ?_) (fun hg => ?_)|refine pickT ?_|refine pickF ?_|refine pick_pos (by first|assumption|omega) ?_|refine pick_neg (by first|assumption|omega) ?_|refine pickn_pos (by first|assumption|omega) ?_|refine pickn_neg (by first|assumption|omega) ?_|refine pickbn_pos (by assumption) ?_|refine pickbn_neg (by assumption) ?_|refine pickb_pos (by assumption) ?_|refine pickb_neg (by assumption) ?_|refine condT ?_|refine condF ?_|refine cond_pos (by first|assumption|omega) ?_|refine cond_neg (by first|assumption|omega) ?_|refine condM_dec (fun hg => ?_) (fun hg => ?_)|refine condn_pos (by first|assumption|omega) ?_|refine condn_neg (by first|assumption|omega) ?_|refine condM_ndec (fun hg => ?_) (fun hg => ?_)|refine condbn_pos (by assumption) ?_|refine condbn_neg (by assumption) ?_|refine condbn_split (fun hg => ?_) (fun hg => ?_)|refine condb_pos (by assumption) ?_|refine condb_neg (by assumption) ?_|refine condM_b (fun hg => ?_) (fun hg => ?_))
      | ((with_reducible refine oM_gen (fun Kv hK => ?_)); simp [go_sem]; (try simp (disch := omega) only [wrapI64, wrapU8, wrapU32, wrapU64]); (first | refine hK _ _ ?_ | refine And.intro (by omega) (hK _ _ ?_)); clear hK; clear Kv)))
      refine ⟨⟨_, _, i + 1, rfl, by omega, d4, t4⟩, ?_⟩
      show ((A.queue.length : Int) - ((i : Int) + 1)).toNat < _
      omega
  · have hi : i = A.queue.length := by omega
    subst hi
    rw [List.take_of_length_le (Nat.le_refl _)] at d3
    have e : crashA A kl = { ({ A with F := survAll kl A.F 0 A.queue, down := true, armed := 0 } : Ab) with F := fun f => ((survAll kl A.F 0 A.queue f).2, (survAll kl A.F 0 A.queue f).2), queue := [] } := by
      unfold crashA
      rw [if_neg (by rw [hdown]; simp)]
    rw [e] at k
    exact crEnd_ok d3 (fun w' h' d' t' => k w' h' d' (t3.trans t'))
end
end Go.Proofs
namespace Go.Proofs
open Go Go.Sh Go.RowKit DkSpec
set_option linter.unusedSimpArgs false
set_option linter.unusedVariables false
set_option maxRecDepth 10000
attribute [local go_sem] oM_indexAddr
section
variable {w : World} {b : Nat} {A : Ab} {h : Dk} {K : Value → World → Prop}
theorem inBlock_own {B : Nat} {e : TypeId} {sz : Nat} {v : Value} {n : Nat} {xs : List Value} (ho : w.ownsRow B e sz v n xs) {i : Nat} (hi : Value.inBlock v = some i) : v.ownBlock = some i := by
  rcases ho.2 with ⟨rfl, _⟩ | ⟨g, cap, cur, rfl, _⟩
  · cases hi
  · cases hi; rfl
theorem IsDk.keepRow (d : IsDk w b A h) : RowR intC 1 w h.kp A.keep := by
  have := d.kep
  rw [show A.keep.map i64V = flat intC A.keep from (flat_one i64V A.keep).symm] at this
  exact RowR.of_owns this
theorem crashK_ok (d : IsDk w b A h) (k : ∀ w' h', IsDk w' b (crashA A A.keep) h' → Step w b h w' h' → K (.tuple #[]) w') : callM Tryd.prog 62 #[dkP b, h.kp] K w :=
  crash_ok d d.keepRow d.wf.kl (fun w' f => d.keepRow.keep f.size (fun i hi hlt => f.block i hlt (fun ho => by
    have hk := inBlock_own d.kep hi
    have := d.kne hk
    rcases ho with rfl | rfl | rfl | ho
    · exact this.1 rfl
    · exact this.2.1 rfl
    · exact this.2.2.1 rfl
    · exact this.2.2.2 ho))) k
theorem Write_ok (d : IsDk w b A h) (f at_ : Int) (s : Bs) (hs : s.length < 2 ^ 60) (hat : -2 ^ 63 ≤ at_ ∧ at_ < 2 ^ 63) (k : ∀ w' h', IsDk w' b (writeA A f at_ s).2 h' → Step w b h w' h' → K (.int .i64 (writeA A f at_ s).1) w') : callM Tryd.prog 53 #[dkP b, .int .i64 f, .int .i64 at_, bsV s] K w := by
  apply sh_53_ok
  unfold sh_53
  refine ends_ok d (fun w1 d1 t1 => ?_)
  refine write_ok d1 f at_ s hs hat (fun w2 h2 d2 t2 => ?_)
  have t02 := t1.trans t2
  unfold writeA at k
  cases he : (endsA A).1 with
  | false =>
    rw [he] at k
    simp only [Bool.false_eq_true, if_false] at k
    repeat (any_goals (first
    | (with_reducible refine pureM_in ?_)
    | (with_reducible first|refine pureQ_in ?_|refine gdQ_conv (fun _ => ?_)|refine pickQT ?_|refine pickQF ?_|refine pickQ_pos (by first|assumption|omega) ?_|refine pickQ_neg (by first|assumption|omega) ?_|refine pickQn_pos (by first|assumption|omega) ?_|refine pickQn_neg (by first|assumption|omega) ?_) | ((with_reducible refine oQ_one ?_ ?_); exact ⟨_, rfl⟩) | (with_reducible first|refine And.intro (Eq.refl (α := World) _) ?_|refine forall_one ?_|refine oQ_nil ?_) | (with_reducible refine oQ_of ⟨_, rfl⟩ (fun W0 hW0 => by (refine oM_gen (fun Kv hK => ?_)); simp [go_sem]; (first | exact hK _ _ ⟨rfl, rfl⟩ | exact ⟨by omega, hK _ _ ⟨rfl, rfl⟩⟩)) ?_)
    | (with_reducible first|refine gdtT ?_|refine gdtF ?_|refine gdfF ?_|refine gdfT ?_|refine gdu ?_ _|refine gdt_pos (by first|assumption|omega) ?_|refine gdt_neg (by first|assumption|omega) ?_|refine gdt_split (fun hg => ?_) (fun hg => ?_)|refine gdf_pos (by first|assumption|omega) ?_|refine gdf_neg (by first|assumption|omega) ?_|refine gdf_split (fun hg => ?_) (fun hg => ?_)|refine gdtn_pos (by first|assumption|omega) ?_|refine gdtn_neg (by first|assumption|omega) ?_|refine gdtn_split (fun hg => ?_) (fun hg => ?_)|refine gdfn_pos (by first|assumption|omega) ?_|refine gdfn_neg (by first|assumption|omega) ?_|refine gdfn_split (fun hg => ?_) (fun hg => ?_)|refine gdtbn_pos (by assumption) ?_|refine gdtbn_neg (by assumption) ?_|refine gdfbn_pos (by assumption) ?_|refine gdfbn_neg (by assumption) ?_|refine gdtb_pos (by assumption) ?_|refine gdtb_neg (by assumption) ?_|refine gdtb_split (fun hg => ?_) (fun hg => ?_)|refine gdfb_pos (by assumption) ?_|refine gdfb_neg (by assumption) ?_|refine gdfb_split (fun hg => ?_) (fun hg => ?_)|refine pickT ?_|refine pickF ?_|refine pick_pos (by first|assumption|omega) ?_|refine pick_neg (by first|assumption|omega) ?_|refine pickn_pos (by first|assumption|omega) ?_|refine pickn_neg (by first|assumption|omega) ?_|refine pickbn_pos (by assumption) ?_|refine pickbn_neg (by assumption) ?_|refine pickb_pos (by assumption) ?_|refine pickb_neg (by assumption) ?_|refine condT ?_|refine condF ?_|refine cond_pos (by first|assumption|omega) ?_|refine cond_neg (by first|assumption|omega) ?_|refine condM_dec (fun hg => ?_) (fun hg => ?_)|refine condn_pos (by first|assumption|omega) ?_|refine condn_neg (by first|assumption|omega) ?_|refine condM_ndec (fun hg => ?_) (fun hg => ?_)|refine condbn_pos (by assumption) ?_|refine condbn_neg (by assumption) ?_|refine condbn_split (fun hg => ?_) (fun hg => ?_)|refine condb_pos (by assumption) ?_|refine condb_neg (by assumption) ?_|refine condM_b (fun hg => ?_) (fun hg => ?_))
    | ((with_reducible refine oM_gen (fun Kv hK => ?_)); simp [go_sem]; (try simp (disch := omega) only [wrapI64, wrapU8, wrapU32, wrapU64]); (first | refine hK _ _ ?_ | refine And.intro (by omega) (hK _ _ ?_)); clear hK; clear Kv)))
    exact k w2 h2 d2 t02
  | true =>
    rw [he] at k
    simp only [if_true] at k
    have c6 := d2.c 6
    simp only [dkCells] at c6
    repeat (any_goals (first
    | (with_reducible refine pureM_in ?_)
    | (with_reducible first|refine pureQ_in ?_|refine gdQ_conv (fun _ => ?_)|refine pickQT ?_|refine pickQF ?_|refine pickQ_pos (by first|assumption|omega) ?_|refine pickQ_neg (by first|assumption|omega) ?_|refine pickQn_pos (by first|assumption|omega) ?_|refine pickQn_neg (by first|assumption|omega) ?_) | ((with_reducible refine oQ_one ?_ ?_); exact ⟨_, rfl⟩) | (with_reducible first|refine And.intro (Eq.refl (α := World) _) ?_|refine forall_one ?_|refine oQ_nil ?_) | (with_reducible refine oQ_of ⟨_, rfl⟩ (fun W0 hW0 => by (refine oM_gen (fun Kv hK => ?_)); simp [go_sem]; (first | exact hK _ _ ⟨rfl, rfl⟩ | exact ⟨by omega, hK _ _ ⟨rfl, rfl⟩⟩)) ?_)
    | (with_reducible refine crashK_ok d2 ?_)
    | (with_reducible first|refine gdtT ?_|refine gdtF ?_|refine gdfF ?_|refine gdfT ?_|refine gdu ?_ _|refine gdt_pos (by first|assumption|omega) ?_|refine gdt_neg (by first|assumption|omega) ?_|refine gdt_split (fun hg => ?_) (fun hg => ?_)|refine gdf_pos (by first|assumption|omega) ?_|refine gdf_neg (by first|assumption|omega) ?_|refine gdf_split (fun hg => ?_) (fun hg => ?_)|refine gdtn_pos (by first|assumption|omega) ?_|refine gdtn_neg (by first|assumption|omega) ?_|refine gdtn_split (fun hg => ?_) (fun hg => ?_)|refine gdfn_pos (by first|assumption|omega) ?_|refine gdfn_neg (by first|assumption|omega) ?_|refine gdfn_split (fun hg => ?_) (fun hg => ?_)|refine gdtbn_pos (by assumption) ?_|refine gdtbn_neg (by assumption) ?_|refine gdfbn_pos (by assumption) ?_|refine gdfbn_neg (by assumption) ?_|refine gdtb_pos (by assumption) ?_|refine gdtb_neg (by assumption) ?_|refine gdtb_split (fun hg => ?_) (fun hg => ?_)|refine gdfb_pos (by assumption) ?_|refine gdfb_neg (by assumption) ?_|refine gdfb_split (fun hg => ?_) (fun hg => ?_)|refine pickT ?_|refine pickF ?_|refine pick_pos (by first|assumption|omega) ?_|refine pick_neg (by first|assumption|omega) ?_|refine pickn_pos (by first|assumption|omega) ?_|refine pickn_neg (by first|assumption|omega) ?_|refine pickbn_pos (by assumption) ?_|refine pickbn_neg (by assumption) ?_|refine pickb_pos (by assumption) ?_|refine pickb_neg (by assumption) ?_|refine condT ?_|refine condF ?_|refine cond_pos (by first|assumption|omega) ?_|refine cond_neg (by first|assumption|omega) ?_|refine condM_dec (fun hg => ?_) (fun hg => ?_)|refine condn_pos (by first|assumption|omega) ?_|refine condn_neg (by first|assumption|omega) ?_|refine condM_ndec (fun hg => ?_) (fun hg => ?_)|refine condbn_pos (by assumption) ?_|refine condbn_neg (by assumption) ?_|refine condbn_split (fun hg => ?_) (fun hg => ?_)|refine condb_pos (by assumption) ?_|refine condb_neg (by assumption) ?_|refine condM_b (fun hg => ?_) (fun hg => ?_))
    | ((with_reducible refine oM_gen (fun Kv hK => ?_)); simp [go_sem, c6]; (try simp (disch := omega) only [wrapI64, wrapU8, wrapU32, wrapU64]); (first | refine hK _ _ ?_ | refine And.intro (by omega) (hK _ _ ?_)); clear hK; clear Kv)))
    intro w3 h3 d3 t3
    repeat (any_goals (first
    | (with_reducible refine pureM_in ?_)
    | (with_reducible first|refine pureQ_in ?_|refine gdQ_conv (fun _ => ?_)|refine pickQT ?_|refine pickQF ?_|refine pickQ_pos (by first|assumption|omega) ?_|refine pickQ_neg (by first|assumption|omega) ?_|refine pickQn_pos (by first|assumption|omega) ?_|refine pickQn_neg (by first|assumption|omega) ?_) | ((with_reducible refine oQ_one ?_ ?_); exact ⟨_, rfl⟩) | (with_reducible first|refine And.intro (Eq.refl (α := World) _) ?_|refine forall_one ?_|refine oQ_nil ?_) | (with_reducible refine oQ_of ⟨_, rfl⟩ (fun W0 hW0 => by (refine oM_gen (fun Kv hK => ?_)); simp [go_sem]; (first | exact hK _ _ ⟨rfl, rfl⟩ | exact ⟨by omega, hK _ _ ⟨rfl, rfl⟩⟩)) ?_)
    | (with_reducible first|refine gdtT ?_|refine gdtF ?_|refine gdfF ?_|refine gdfT ?_|refine gdu ?_ _|refine gdt_pos (by first|assumption|omega) ?_|refine gdt_neg (by first|assumption|omega) ?_|refine gdt_split (fun hg => ?_) (fun hg => ?_)|refine gdf_pos (by first|assumption|omega) ?_|refine gdf_neg (by first|assumption|omega) ?_|refine gdf_split (fun hg => ?_) (fun hg => ?_)|refine gdtn_pos (by first|assumption|omega) ?_|refine gdtn_neg (by first|assumption|omega) ?_|refine gdtn_split (fun hg => ?_) (fun hg => ?_)|refine gdfn_pos (by first|assumption|omega) ?_|refine gdfn_neg (by first|assumption|omega) ?_|refine gdfn_split (fun hg => ?_) (fun hg => ?_)|refine gdtbn_pos (by assumption) ?_|refine gdtbn_neg (by assumption) ?_|refine gdfbn_pos (by assumption) ?_|refine gdfbn_neg (by assumption) ?_|refine gdtb_pos (by assumption) ?_|refine gdtb_neg (by assumption) ?_|refine gdtb_split (fun hg => ?_) (fun hg => ?_)|refine gdfb_pos (by assumption) ?_|refine gdfb_neg (by assumption) ?_|refine gdfb_split (fun hg => ?_) (fun hg => ?_)|refine pickT ?_|refine pickF ?_|refine pick_pos (by first|assumption|omega) ?_|refine pick_neg (by first|assumption|omega) ?_|refine pickn_pos (by first|assumption|omega) ?_|refine pickn_neg (by first|assumption|omega) ?_|refine pickbn_pos (by assumption) ?_|refine pickbn_neg (by assumption) ?_|refine pickb_pos (by assumption) ?_|refine pickb_neg (by assumption) ?_|refine condT ?_|refine condF ?_|refine cond_pos (by first|assumption|omega) ?_|refine cond_neg (by first|assumption|omega) ?_|refine condM_dec (fun hg => ?_) (fun hg => ?_)|refine condn_pos (by first|assumption|omega) ?_|refine condn_neg (by first|assumption|omega) ?_|refine condM_ndec (fun hg => ?_) (fun hg => ?_)|refine condbn_pos (by assumption) ?_|refine condbn_neg (by assumption) ?_|refine condbn_split (fun hg => ?_) (fun hg => ?_)|refine condb_pos (by assumption) ?_|refine condb_neg (by assumption) ?_|refine condM_b (fun hg => ?_) (fun hg => ?_))
    | ((with_reducible refine oM_gen (fun Kv hK => ?_)); simp [go_sem]; (try simp (disch := omega) only [wrapI64, wrapU8, wrapU32, wrapU64]); (first | refine hK _ _ ?_ | refine And.intro (by omega) (hK _ _ ?_)); clear hK; clear Kv)))
    exact k w3 h3 d3 (t02.trans t3)
theorem Sync_ok (d : IsDk w b A h) (f : Int) (k : ∀ w' h', IsDk w' b (syncA A f).2 h' → Step w b h w' h' → K (.int .i64 (syncA A f).1) w') : callM Tryd.prog 80 #[dkP b, .int .i64 f] K w := by
  apply sh_80_ok
  unfold sh_80
  refine ⟨fun l w' => l = [] ∧ ∃ h', IsDk w' b (comesA A) h' ∧ Step w b h w' h', ?_, ?_⟩
  · refine ends_ok d (fun w1 d1 t1 => ?_)
    unfold comesA
    cases he : (endsA A).1 with
    | false =>
      simp only [Bool.false_eq_true, if_false]
      repeat (any_goals (first
      | (with_reducible refine pureM_in ?_)
      | (with_reducible first|refine pureQ_in ?_|refine gdQ_conv (fun _ => ?_)|refine pickQT ?_|refine pickQF ?_|refine pickQ_pos (by first|assumption|omega) ?_|refine pickQ_neg (by first|assumption|omega) ?_|refine pickQn_pos (by first|assumption|omega) ?_|refine pickQn_neg (by first|assumption|omega) ?_) | ((with_reducible refine oQ_one ?_ ?_); exact ⟨_, rfl⟩) | (with_reducible first|refine And.intro (Eq.refl (α := World) _) ?_|refine forall_one ?_|refine oQ_nil ?_) | (with_reducible refine oQ_of ⟨_, rfl⟩ (fun W0 hW0 => by (refine oM_gen (fun Kv hK => ?_)); simp [go_sem]; (first | exact hK _ _ ⟨rfl, rfl⟩ | exact ⟨by omega, hK _ _ ⟨rfl, rfl⟩⟩)) ?_)
      | (with_reducible first|refine gdtT ?_|refine gdtF ?_|refine gdfF ?_|refine gdfT ?_|refine gdu ?_ _|refine gdt_pos (by first|assumption|omega) ?_|refine gdt_neg (by first|assumption|omega) ?_|refine gdt_split (fun hg => ?_) (fun hg => ?_)|refine gdf_pos (by first|assumption|omega) ?_|refine gdf_neg (by first|assumption|omega) ?_|refine gdf_split (fun hg => ?_) (fun hg => ?_)|refine gdtn_pos (by first|assumption|omega) ?_|refine gdtn_neg (by first|assumption|omega) ?_|refine gdtn_split (fun hg => ?_) (fun hg => ?_)|refine gdfn_pos (by first|assumption|omega) ?_|refine gdfn_neg (by first|assumption|omega) ?_|refine gdfn_split (fun hg => ?_) (fun hg => ?_)|refine gdtbn_pos (by assumption) ?_|refine gdtbn_neg (by assumption) ?_|refine gdfbn_pos (by assumption) ?_|refine gdfbn_neg (by assumption) ?_|refine gdtb_pos (by assumption) ?_|refine gdtb_neg (by assumption) ?_|refine gdtb_split (fun hg => ?_) (fun hg => ?_)|refine gdfb_pos (by assumption) ?_|refine gdfb_neg (by assumption) ?_|refine gdfb_split (fun hg => ?_) (fun hg => ?_)|refine pickT ?_|refine pickF ?_|refine pick_pos (by first|assumption|omega) ?_|refine pick_neg (by first|assumption|omega) ?_|refine pickn_pos (by first|assumption|omega) ?_|refine pickn_neg (by first|assumption|omega) ?_|refine pickbn_pos (by assumption) ?_|refine pickbn_neg (by assumption) ?_|refine pickb_pos (by assumption) ?_|refine pickb_neg (by assumption) ?_|refine condT ?_|refine condF ?_|refine cond_pos (by first|assumption|omega) ?_|refine cond_neg (by first|assumption|omega) ?_|refine condM_dec (fun hg => ?_) (fun hg => ?_)|refine condn_pos (by first|assumption|omega) ?_|refine condn_neg (by first|assumption|omega) ?_|refine condM_ndec (fun hg => ?_) (fun hg => ?_)|refine condbn_pos (by assumption) ?_|refine condbn_neg (by assumption) ?_|refine condbn_split (fun hg => ?_) (fun hg => ?_)|refine condb_pos (by assumption) ?_|refine condb_neg (by assumption) ?_|refine condM_b (fun hg => ?_) (fun hg => ?_))
      | ((with_reducible refine oM_gen (fun Kv hK => ?_)); simp [go_sem]; (try simp (disch := omega) only [wrapI64, wrapU8, wrapU32, wrapU64]); (first | refine hK _ _ ?_ | refine And.intro (by omega) (hK _ _ ?_)); clear hK; clear Kv)))
      exact ⟨by first | trivial | rfl, h, d1, t1⟩
    | true =>
      simp only [if_true]
      have c6 := d1.c 6
      simp only [dkCells] at c6
      repeat (any_goals (first
      | (with_reducible refine pureM_in ?_)
      | (with_reducible first|refine pureQ_in ?_|refine gdQ_conv (fun _ => ?_)|refine pickQT ?_|refine pickQF ?_|refine pickQ_pos (by first|assumption|omega) ?_|refine pickQ_neg (by first|assumption|omega) ?_|refine pickQn_pos (by first|assumption|omega) ?_|refine pickQn_neg (by first|assumption|omega) ?_) | ((with_reducible refine oQ_one ?_ ?_); exact ⟨_, rfl⟩) | (with_reducible first|refine And.intro (Eq.refl (α := World) _) ?_|refine forall_one ?_|refine oQ_nil ?_) | (with_reducible refine oQ_of ⟨_, rfl⟩ (fun W0 hW0 => by (refine oM_gen (fun Kv hK => ?_)); simp [go_sem]; (first | exact hK _ _ ⟨rfl, rfl⟩ | exact ⟨by omega, hK _ _ ⟨rfl, rfl⟩⟩)) ?_)
      | (with_reducible refine crashK_ok d1 ?_)
      | (with_reducible first|refine gdtT ?_|refine gdtF ?_|refine gdfF ?_|refine gdfT ?_|refine gdu ?_ _|refine gdt_pos (by first|assumption|omega) ?_|refine gdt_neg (by first|assumption|omega) ?_|refine gdt_split (fun hg => ?_) (fun hg => ?_)|refine gdf_pos (by first|assumption|omega) ?_|refine gdf_neg (by first|assumption|omega) ?_|refine gdf_split (fun hg => ?_) (fun hg => ?_)|refine gdtn_pos (by first|assumption|omega) ?_|refine gdtn_neg (by first|assumption|omega) ?_|refine gdtn_split (fun hg => ?_) (fun hg => ?_)|refine gdfn_pos (by first|assumption|omega) ?_|refine gdfn_neg (by first|assumption|omega) ?_|refine gdfn_split (fun hg => ?_) (fun hg => ?_)|refine gdtbn_pos (by assumption) ?_|refine gdtbn_neg (by assumption) ?_|refine gdfbn_pos (by assumption) ?_|refine gdfbn_neg (by assumption) ?_|refine gdtb_pos (by assumption) ?_|refine gdtb_neg (by assumption) ?_|refine gdtb_split (fun hg => ?_) (fun hg => ?_)|refine gdfb_pos (by assumption) ?_|refine gdfb_neg (by assumption) ?_|refine gdfb_split (fun hg => ?_) (fun hg => ?_)|refine pickT ?_|refine pickF ?_|refine pick_pos (by first|assumption|omega) ?_|refine pick_neg (by first|assumption|omega) ?_|refine pickn_pos (by first|assumption|omega) ?_|refine pickn_neg (by first|assumption|omega) ?_|refine pickbn_pos (by assumption) ?_|refine pickbn_neg (by assumption) ?_|refine pickb_pos (by assumption) ?_|refine pickb_neg (by assumption) ?_|refine condT ?_|refine condF ?_|refine cond_pos (by first|assumption|omega) ?_|refine cond_neg (by first|assumption|omega) ?_|refine condM_dec (fun hg => ?_) (fun hg => ?_)|refine condn_pos (by first|assumption|omega) ?_|refine condn_neg (by first|assumption|omega) ?_|refine condM_ndec (fun hg => ?_) (fun hg => ?_)|refine condbn_pos (by assumption) ?_|refine condbn_neg (by assumption) ?_|refine condbn_split (fun hg => ?_) (fun hg => ?_)|refine condb_pos (by assumption) ?_|refine condb_neg (by assumption) ?_|refine condM_b (fun hg => ?_) (fun hg => ?_))
      | ((with_reducible refine oM_gen (fun Kv hK => ?_)); simp [go_sem, c6]; (try simp (disch := omega) only [wrapI64, wrapU8, wrapU32, wrapU64]); (first | refine hK _ _ ?_ | refine And.intro (by omega) (hK _ _ ?_)); clear hK; clear Kv)))
      intro w3 h3 d3 t3
      exact ⟨by first | trivial | rfl, h3, d3, t1.trans t3⟩
  · rintro l u w1 ⟨rfl, h1, d1, t1⟩
    refine may_ok d1 f ?_
    have c0 := d1.c 0
    have c3 := d1.c 3
    have f3 := d1.fz 3
    simp only [dkCells] at c0 c3
    have hl := d1.look f
    have l0 := d1.wf.l0
    have l1 := d1.wf.l1
    unfold syncA at k
    repeat (any_goals (first
    | (with_reducible refine pureM_in ?_)
    | (with_reducible first|refine pureQ_in ?_|refine gdQ_conv (fun _ => ?_)|refine pickQT ?_|refine pickQF ?_|refine pickQ_pos (by first|assumption|omega) ?_|refine pickQ_neg (by first|assumption|omega) ?_|refine pickQn_pos (by first|assumption|omega) ?_|refine pickQn_neg (by first|assumption|omega) ?_) | ((with_reducible refine oQ_one ?_ ?_); exact ⟨_, rfl⟩) | (with_reducible first|refine And.intro (Eq.refl (α := World) _) ?_|refine forall_one ?_|refine oQ_nil ?_) | (with_reducible refine oQ_of ⟨_, rfl⟩ (fun W0 hW0 => by (refine oM_gen (fun Kv hK => ?_)); simp [go_sem]; (first | exact hK _ _ ⟨rfl, rfl⟩ | exact ⟨by omega, hK _ _ ⟨rfl, rfl⟩⟩)) ?_)
    | (with_reducible first|refine gdtT ?_|refine gdtF ?_|refine gdfF ?_|refine gdfT ?_|refine gdu ?_ _|refine gdt_pos (by first|assumption|omega) ?_|refine gdt_neg (by first|assumption|omega) ?_|refine gdt_split (fun hg => ?_) (fun hg => ?_)|refine gdf_pos (by first|assumption|omega) ?_|refine gdf_neg (by first|assumption|omega) ?_|refine gdf_split (fun hg => ?_) (fun hg => ?_)|refine gdtn_pos (by first|assumption|omega) ?_|refine gdtn_neg (by first|assumption|omega) ?_|refine gdtn_split (fun hg => ?_) (fun hg => ?_)|refine gdfn_pos (by first|assumption|omega) ?_|refine gdfn_neg (by first|assumption|omega) ?_|refine gdfn_split (fun hg => ?_) (fun hg => ?_)|refine gdtbn_pos (by assumption) ?_|refine gdtbn_neg (by assumption) ?_|refine gdfbn_pos (by assumption) ?_|refine gdfbn_neg (by assumption) ?_|refine gdtb_pos (by assumption) ?_|refine gdtb_neg (by assumption) ?_|refine gdtb_split (fun hg => ?_) (fun hg => ?_)|refine gdfb_pos (by assumption) ?_|refine gdfb_neg (by assumption) ?_|refine gdfb_split (fun hg => ?_) (fun hg => ?_)|refine pickT ?_|refine pickF ?_|refine pick_pos (by first|assumption|omega) ?_|refine pick_neg (by first|assumption|omega) ?_|refine pickn_pos (by first|assumption|omega) ?_|refine pickn_neg (by first|assumption|omega) ?_|refine pickbn_pos (by assumption) ?_|refine pickbn_neg (by assumption) ?_|refine pickb_pos (by assumption) ?_|refine pickb_neg (by assumption) ?_|refine condT ?_|refine condF ?_|refine cond_pos (by first|assumption|omega) ?_|refine cond_neg (by first|assumption|omega) ?_|refine condM_dec (fun hg => ?_) (fun hg => ?_)|refine condn_pos (by first|assumption|omega) ?_|refine condn_neg (by first|assumption|omega) ?_|refine condM_ndec (fun hg => ?_) (fun hg => ?_)|refine condbn_pos (by assumption) ?_|refine condbn_neg (by assumption) ?_|refine condbn_split (fun hg => ?_) (fun hg => ?_)|refine condb_pos (by assumption) ?_|refine condb_neg (by assumption) ?_|refine condM_b (fun hg => ?_) (fun hg => ?_))
    | ((with_reducible refine oM_gen (fun Kv hK => ?_)); simp [go_sem, c0, c3, f3, hl, flV, bsV]; (try simp (disch := omega) only [wrapI64, wrapU8, wrapU32, wrapU64]); (first | refine hK _ _ ?_ | refine And.intro (by omega) (hK _ _ ?_)); clear hK; clear Kv)))
    · rename_i hm
      rw [if_neg (by omega), if_pos hg] at k
      exact k _ _ (d1.set3 ((comesA A).lost - 1) (by omega)) (t1.trans (step_set _ _ _ _ _))
    · rename_i hm
      rw [if_neg (by omega), if_neg hg] at k
      refine settle_ok d1 f ((comesA A).F f).1 (d1.wf.sz f).1 (fun w2 h2 d2 t2 => ?_)
      repeat (any_goals (first
      | (with_reducible refine pureM_in ?_)
      | (with_reducible first|refine pureQ_in ?_|refine gdQ_conv (fun _ => ?_)|refine pickQT ?_|refine pickQF ?_|refine pickQ_pos (by first|assumption|omega) ?_|refine pickQ_neg (by first|assumption|omega) ?_|refine pickQn_pos (by first|assumption|omega) ?_|refine pickQn_neg (by first|assumption|omega) ?_) | ((with_reducible refine oQ_one ?_ ?_); exact ⟨_, rfl⟩) | (with_reducible first|refine And.intro (Eq.refl (α := World) _) ?_|refine forall_one ?_|refine oQ_nil ?_) | (with_reducible refine oQ_of ⟨_, rfl⟩ (fun W0 hW0 => by (refine oM_gen (fun Kv hK => ?_)); simp [go_sem]; (first | exact hK _ _ ⟨rfl, rfl⟩ | exact ⟨by omega, hK _ _ ⟨rfl, rfl⟩⟩)) ?_)
      | (with_reducible first|refine gdtT ?_|refine gdtF ?_|refine gdfF ?_|refine gdfT ?_|refine gdu ?_ _|refine gdt_pos (by first|assumption|omega) ?_|refine gdt_neg (by first|assumption|omega) ?_|refine gdt_split (fun hg => ?_) (fun hg => ?_)|refine gdf_pos (by first|assumption|omega) ?_|refine gdf_neg (by first|assumption|omega) ?_|refine gdf_split (fun hg => ?_) (fun hg => ?_)|refine gdtn_pos (by first|assumption|omega) ?_|refine gdtn_neg (by first|assumption|omega) ?_|refine gdtn_split (fun hg => ?_) (fun hg => ?_)|refine gdfn_pos (by first|assumption|omega) ?_|refine gdfn_neg (by first|assumption|omega) ?_|refine gdfn_split (fun hg => ?_) (fun hg => ?_)|refine gdtbn_pos (by assumption) ?_|refine gdtbn_neg (by assumption) ?_|refine gdfbn_pos (by assumption) ?_|refine gdfbn_neg (by assumption) ?_|refine gdtb_pos (by assumption) ?_|refine gdtb_neg (by assumption) ?_|refine gdtb_split (fun hg => ?_) (fun hg => ?_)|refine gdfb_pos (by assumption) ?_|refine gdfb_neg (by assumption) ?_|refine gdfb_split (fun hg => ?_) (fun hg => ?_)|refine pickT ?_|refine pickF ?_|refine pick_pos (by first|assumption|omega) ?_|refine pick_neg (by first|assumption|omega) ?_|refine pickn_pos (by first|assumption|omega) ?_|refine pickn_neg (by first|assumption|omega) ?_|refine pickbn_pos (by assumption) ?_|refine pickbn_neg (by assumption) ?_|refine pickb_pos (by assumption) ?_|refine pickb_neg (by assumption) ?_|refine condT ?_|refine condF ?_|refine cond_pos (by first|assumption|omega) ?_|refine cond_neg (by first|assumption|omega) ?_|refine condM_dec (fun hg => ?_) (fun hg => ?_)|refine condn_pos (by first|assumption|omega) ?_|refine condn_neg (by first|assumption|omega) ?_|refine condM_ndec (fun hg => ?_) (fun hg => ?_)|refine condbn_pos (by assumption) ?_|refine condbn_neg (by assumption) ?_|refine condbn_split (fun hg => ?_) (fun hg => ?_)|refine condb_pos (by assumption) ?_|refine condb_neg (by assumption) ?_|refine condM_b (fun hg => ?_) (fun hg => ?_))
      | ((with_reducible refine oM_gen (fun Kv hK => ?_)); simp [go_sem]; (try simp (disch := omega) only [wrapI64, wrapU8, wrapU32, wrapU64]); (first | refine hK _ _ ?_ | refine And.intro (by omega) (hK _ _ ?_)); clear hK; clear Kv)))
      exact k w2 h2 d2 (t1.trans t2)
    · rw [if_pos hg] at k
      exact k _ _ d1 t1
theorem Trunc_ok (d : IsDk w b A h) (f n : Int) (k : ∀ w' h', IsDk w' b (truncA A f n).2 h' → Step w b h w' h' → K (.int .i64 (truncA A f n).1) w') : callM Tryd.prog 82 #[dkP b, .int .i64 f, .int .i64 n] K w := by
  apply sh_82_ok
  unfold sh_82
  refine ⟨fun l w' => l = [] ∧ ∃ h', IsDk w' b (comesA A) h' ∧ Step w b h w' h', ?_, ?_⟩
  · refine ends_ok d (fun w1 d1 t1 => ?_)
    unfold comesA
    cases he : (endsA A).1 with
    | false =>
      simp only [Bool.false_eq_true, if_false]
      repeat (any_goals (first
      | (with_reducible refine pureM_in ?_)
      | (with_reducible first|refine pureQ_in ?_|refine gdQ_conv (fun _ => ?_)|refine pickQT ?_|refine pickQF ?_|refine pickQ_pos (by first|assumption|omega) ?_|refine pickQ_neg (by first|assumption|omega) ?_|refine pickQn_pos (by first|assumption|omega) ?_|refine pickQn_neg (by first|assumption|omega) ?_) | ((with_reducible refine oQ_one ?_ ?_); exact ⟨_, rfl⟩) | (with_reducible first|refine And.intro (Eq.refl (α := World) _) ?_|refine forall_one ?_|refine oQ_nil ?_) | (with_reducible refine oQ_of ⟨_, rfl⟩ (fun W0 hW0 => by (refine oM_gen (fun Kv hK => ?_)); simp [go_sem]; (first | exact hK _ _ ⟨rfl, rfl⟩ | exact ⟨by omega, hK _ _ ⟨rfl, rfl⟩⟩)) ?_)
      | (with_reducible first|refine gdtT ?_|refine gdtF ?_|refine gdfF ?_|refine gdfT ?_|refine gdu ?_ _|refine gdt_pos (by first|assumption|omega) ?_|refine gdt_neg (by first|assumption|omega) ?_|refine gdt_split (fun hg => ?_) (fun hg => ?_)|refine gdf_pos (by first|assumption|omega) ?_|refine gdf_neg (by first|assumption|omega) ?_|refine gdf_split (fun hg => ?_) (fun hg => ?_)|refine gdtn_pos (by first|assumption|omega) ?_|refine gdtn_neg (by first|assumption|omega) ?_|refine gdtn_split (fun hg => ?_) (fun hg => ?_)|refine gdfn_pos (by first|assumption|omega) ?_|refine gdfn_neg (by first|assumption|omega) ?_|refine gdfn_split (fun hg => ?_) (fun hg => ?_)|refine gdtbn_pos (by assumption) ?_|refine gdtbn_neg (by assumption) ?_|refine gdfbn_pos (by assumption) ?_|refine gdfbn_neg (by assumption) ?_|refine gdtb_pos (by assumption) ?_|refine gdtb_neg (by assumption) ?_|refine gdtb_split (fun hg => ?_) (fun hg => ?_)|refine gdfb_pos (by assumption) ?_|refine gdfb_neg (by assumption) ?_|refine gdfb_split (fun hg => ?_) (fun hg => ?_)|refine pickT ?_|refine pickF ?_|refine pick_pos (by first|assumption|omega) ?_|refine pick_neg (by first|assumption|omega) ?_|refine pickn_pos (by first|assumption|omega) ?_|refine pickn_neg (by first|assumption|omega) ?_|refine pickbn_pos (by assumption) ?_|refine pickbn_neg (by assumption) ?_|refine pickb_pos (by assumption) ?_|refine pickb_neg (by assumption) ?_|refine condT ?_|refine condF ?_|refine cond_pos (by first|assumption|omega) ?_|refine cond_neg (by first|assumption|omega) ?_|refine condM_dec (fun hg => ?_) (fun hg => ?_)|refine condn_pos (by first|assumption|omega) ?_|refine condn_neg (by first|assumption|omega) ?_|refine condM_ndec (fun hg => ?_) (fun hg => ?_)|refine condbn_pos (by assumption) ?_|refine condbn_neg (by assumption) ?_|refine condbn_split (fun hg => ?_) (fun hg => ?_)|refine condb_pos (by assumption) ?_|refine condb_neg (by assumption) ?_|refine condM_b (fun hg => ?_) (fun hg => ?_))
      | ((with_reducible refine oM_gen (fun Kv hK => ?_)); simp [go_sem]; (try simp (disch := omega) only [wrapI64, wrapU8, wrapU32, wrapU64]); (first | refine hK _ _ ?_ | refine And.intro (by omega) (hK _ _ ?_)); clear hK; clear Kv)))
      exact ⟨by first | trivial | rfl, h, d1, t1⟩
    | true =>
      simp only [if_true]
      have c6 := d1.c 6
      simp only [dkCells] at c6
      repeat (any_goals (first
      | (with_reducible refine pureM_in ?_)
      | (with_reducible first|refine pureQ_in ?_|refine gdQ_conv (fun _ => ?_)|refine pickQT ?_|refine pickQF ?_|refine pickQ_pos (by first|assumption|omega) ?_|refine pickQ_neg (by first|assumption|omega) ?_|refine pickQn_pos (by first|assumption|omega) ?_|refine pickQn_neg (by first|assumption|omega) ?_) | ((with_reducible refine oQ_one ?_ ?_); exact ⟨_, rfl⟩) | (with_reducible first|refine And.intro (Eq.refl (α := World) _) ?_|refine forall_one ?_|refine oQ_nil ?_) | (with_reducible refine oQ_of ⟨_, rfl⟩ (fun W0 hW0 => by (refine oM_gen (fun Kv hK => ?_)); simp [go_sem]; (first | exact hK _ _ ⟨rfl, rfl⟩ | exact ⟨by omega, hK _ _ ⟨rfl, rfl⟩⟩)) ?_)
      | (with_reducible refine crashK_ok d1 ?_)
      | (with_reducible first|refine gdtT ?_|refine gdtF ?_|refine gdfF ?_|refine gdfT ?_|refine gdu ?_ _|refine gdt_pos (by first|assumption|omega) ?_|refine gdt_neg (by first|assumption|omega) ?_|refine gdt_split (fun hg => ?_) (fun hg => ?_)|refine gdf_pos (by first|assumption|omega) ?_|refine gdf_neg (by first|assumption|omega) ?_|refine gdf_split (fun hg => ?_) (fun hg => ?_)|refine gdtn_pos (by first|assumption|omega) ?_|refine gdtn_neg (by first|assumption|omega) ?_|refine gdtn_split (fun hg => ?_) (fun hg => ?_)|refine gdfn_pos (by first|assumption|omega) ?_|refine gdfn_neg (by first|assumption|omega) ?_|refine gdfn_split (fun hg => ?_) (fun hg => ?_)|refine gdtbn_pos (by assumption) ?_|refine gdtbn_neg (by assumption) ?_|refine gdfbn_pos (by assumption) ?_|refine gdfbn_neg (by assumption) ?_|refine gdtb_pos (by assumption) ?_|refine gdtb_neg (by assumption) ?_|refine gdtb_split (fun hg => ?_) (fun hg => ?_)|refine gdfb_pos (by assumption) ?_|refine gdfb_neg (by assumption) ?_|refine gdfb_split (fun hg => ?_) (fun hg => ?_)|refine pickT ?_|refine pickF ?_|refine pick_pos (by first|assumption|omega) ?_|refine pick_neg (by first|assumption|omega) ?_|refine pickn_pos (by first|assumption|omega) ?_|refine pickn_neg (by first|assumption|omega) ?_|refine pickbn_pos (by assumption) ?_|refine pickbn_neg (by assumption) ?_|refine pickb_pos (by assumption) ?_|refine pickb_neg (by assumption) ?_|refine condT ?_|refine condF ?_|refine cond_pos (by first|assumption|omega) ?_|refine cond_neg (by first|assumption|omega) ?_|refine condM_dec (fun hg => ?_) (fun hg => ?_)|refine condn_pos (by first|assumption|omega) ?_|refine condn_neg (by first|assumption|omega) ?_|refine condM_ndec (fun hg => ?_) (fun hg => ?_)|refine condbn_pos (by assumption) ?_|refine condbn_neg (by assumption) ?_|refine condbn_split (fun hg => ?_) (fun hg => ?_)|refine condb_pos (by assumption) ?_|refine condb_neg (by assumption) ?_|refine condM_b (fun hg => ?_) (fun hg => ?_))
      | ((with_reducible refine oM_gen (fun Kv hK => ?_)); simp [go_sem, c6]; (try simp (disch := omega) only [wrapI64, wrapU8, wrapU32, wrapU64]); (first | refine hK _ _ ?_ | refine And.intro (by omega) (hK _ _ ?_)); clear hK; clear Kv)))
      intro w3 h3 d3 t3
      exact ⟨by first | trivial | rfl, h3, d3, t1.trans t3⟩
  · rintro l u w1 ⟨rfl, h1, d1, t1⟩
    refine may_ok d1 f ?_
    have c0 := d1.c 0
    simp only [dkCells] at c0
    have hl := d1.look f
    unfold truncA at k
    repeat (any_goals (first
    | (with_reducible refine pureM_in ?_)
    | (with_reducible first|refine pureQ_in ?_|refine gdQ_conv (fun _ => ?_)|refine pickQT ?_|refine pickQF ?_|refine pickQ_pos (by first|assumption|omega) ?_|refine pickQ_neg (by first|assumption|omega) ?_|refine pickQn_pos (by first|assumption|omega) ?_|refine pickQn_neg (by first|assumption|omega) ?_) | ((with_reducible refine oQ_one ?_ ?_); exact ⟨_, rfl⟩) | (with_reducible first|refine And.intro (Eq.refl (α := World) _) ?_|refine forall_one ?_|refine oQ_nil ?_) | (with_reducible refine oQ_of ⟨_, rfl⟩ (fun W0 hW0 => by (refine oM_gen (fun Kv hK => ?_)); simp [go_sem]; (first | exact hK _ _ ⟨rfl, rfl⟩ | exact ⟨by omega, hK _ _ ⟨rfl, rfl⟩⟩)) ?_)
    | (with_reducible refine size_ok d1 f ?_)
    | (with_reducible first|refine gdtT ?_|refine gdtF ?_|refine gdfF ?_|refine gdfT ?_|refine gdu ?_ _|refine gdt_pos (by first|assumption|omega) ?_|refine gdt_neg (by first|assumption|omega) ?_|refine gdt_split (fun hg => ?_) (fun hg => ?_)|refine gdf_pos (by first|assumption|omega) ?_|refine gdf_neg (by first|assumption|omega) ?_|refine gdf_split (fun hg => ?_) (fun hg => ?_)|refine gdtn_pos (by first|assumption|omega) ?_|refine gdtn_neg (by first|assumption|omega) ?_|refine gdtn_split (fun hg => ?_) (fun hg => ?_)|refine gdfn_pos (by first|assumption|omega) ?_|refine gdfn_neg (by first|assumption|omega) ?_|refine gdfn_split (fun hg => ?_) (fun hg => ?_)|refine gdtbn_pos (by assumption) ?_|refine gdtbn_neg (by assumption) ?_|refine gdfbn_pos (by assumption) ?_|refine gdfbn_neg (by assumption) ?_|refine gdtb_pos (by assumption) ?_|refine gdtb_neg (by assumption) ?_|refine gdtb_split (fun hg => ?_) (fun hg => ?_)|refine gdfb_pos (by assumption) ?_|refine gdfb_neg (by assumption) ?_|refine gdfb_split (fun hg => ?_) (fun hg => ?_)|refine pickT ?_|refine pickF ?_|refine pick_pos (by first|assumption|omega) ?_|refine pick_neg (by first|assumption|omega) ?_|refine pickn_pos (by first|assumption|omega) ?_|refine pickn_neg (by first|assumption|omega) ?_|refine pickbn_pos (by assumption) ?_|refine pickbn_neg (by assumption) ?_|refine pickb_pos (by assumption) ?_|refine pickb_neg (by assumption) ?_|refine condT ?_|refine condF ?_|refine cond_pos (by first|assumption|omega) ?_|refine cond_neg (by first|assumption|omega) ?_|refine condM_dec (fun hg => ?_) (fun hg => ?_)|refine condn_pos (by first|assumption|omega) ?_|refine condn_neg (by first|assumption|omega) ?_|refine condM_ndec (fun hg => ?_) (fun hg => ?_)|refine condbn_pos (by assumption) ?_|refine condbn_neg (by assumption) ?_|refine condbn_split (fun hg => ?_) (fun hg => ?_)|refine condb_pos (by assumption) ?_|refine condb_neg (by assumption) ?_|refine condM_b (fun hg => ?_) (fun hg => ?_))
    | ((with_reducible refine oM_gen (fun Kv hK => ?_)); simp [go_sem, c0, hl, flV, bsV]; (try simp (disch := omega) only [wrapI64, wrapU8, wrapU32, wrapU64]); (first | refine hK _ _ ?_ | refine And.intro (by omega) (hK _ _ ?_)); clear hK; clear Kv)))
    · rename_i hm
      rw [if_neg (by omega), if_pos (.inl hg)] at k
      exact k _ _ d1 t1
    · rename_i hm h0
      rw [if_neg (by omega), if_pos (.inr (by omega))] at k
      exact k _ _ d1 t1
    · rename_i hm h0
      rw [if_neg (by omega), if_neg (by omega)] at k
      have hsz := (d1.wf.sz f).1
      have e : (⟨((comesA A).F f).1.toArray⟩ : ByteArray).extract 0 n.toNat = ⟨(((comesA A).F f).1.take n.toNat).toArray⟩ := by
        rw [ba_ext]; simp
      try rw [e]
      refine settle_ok d1 f (((comesA A).F f).1.take n.toNat) (by simp; omega) (fun w2 h2 d2 t2 => ?_)
      repeat (any_goals (first
      | (with_reducible refine pureM_in ?_)
      | (with_reducible first|refine pureQ_in ?_|refine gdQ_conv (fun _ => ?_)|refine pickQT ?_|refine pickQF ?_|refine pickQ_pos (by first|assumption|omega) ?_|refine pickQ_neg (by first|assumption|omega) ?_|refine pickQn_pos (by first|assumption|omega) ?_|refine pickQn_neg (by first|assumption|omega) ?_) | ((with_reducible refine oQ_one ?_ ?_); exact ⟨_, rfl⟩) | (with_reducible first|refine And.intro (Eq.refl (α := World) _) ?_|refine forall_one ?_|refine oQ_nil ?_) | (with_reducible refine oQ_of ⟨_, rfl⟩ (fun W0 hW0 => by (refine oM_gen (fun Kv hK => ?_)); simp [go_sem]; (first | exact hK _ _ ⟨rfl, rfl⟩ | exact ⟨by omega, hK _ _ ⟨rfl, rfl⟩⟩)) ?_)
      | (with_reducible first|refine gdtT ?_|refine gdtF ?_|refine gdfF ?_|refine gdfT ?_|refine gdu ?_ _|refine gdt_pos (by first|assumption|omega) ?_|refine gdt_neg (by first|assumption|omega) ?_|refine gdt_split (fun hg => ?_) (fun hg => ?_)|refine gdf_pos (by first|assumption|omega) ?_|refine gdf_neg (by first|assumption|omega) ?_|refine gdf_split (fun hg => ?_) (fun hg => ?_)|refine gdtn_pos (by first|assumption|omega) ?_|refine gdtn_neg (by first|assumption|omega) ?_|refine gdtn_split (fun hg => ?_) (fun hg => ?_)|refine gdfn_pos (by first|assumption|omega) ?_|refine gdfn_neg (by first|assumption|omega) ?_|refine gdfn_split (fun hg => ?_) (fun hg => ?_)|refine gdtbn_pos (by assumption) ?_|refine gdtbn_neg (by assumption) ?_|refine gdfbn_pos (by assumption) ?_|refine gdfbn_neg (by assumption) ?_|refine gdtb_pos (by assumption) ?_|refine gdtb_neg (by assumption) ?_|refine gdtb_split (fun hg => ?_) (fun hg => ?_)|refine gdfb_pos (by assumption) ?_|refine gdfb_neg (by assumption) ?_|refine gdfb_split (fun hg => ?_) (fun hg => ?_)|refine pickT ?_|refine pickF ?_|refine pick_pos (by first|assumption|omega) ?_|refine pick_neg (by first|assumption|omega) ?_|refine pickn_pos (by first|assumption|omega) ?_|refine pickn_neg (by first|assumption|omega) ?_|refine pickbn_pos (by assumption) ?_|refine pickbn_neg (by assumption) ?_|refine pickb_pos (by assumption) ?_|refine pickb_neg (by assumption) ?_|refine condT ?_|refine condF ?_|refine cond_pos (by first|assumption|omega) ?_|refine cond_neg (by first|assumption|omega) ?_|refine condM_dec (fun hg => ?_) (fun hg => ?_)|refine condn_pos (by first|assumption|omega) ?_|refine condn_neg (by first|assumption|omega) ?_|refine condM_ndec (fun hg => ?_) (fun hg => ?_)|refine condbn_pos (by assumption) ?_|refine condbn_neg (by assumption) ?_|refine condbn_split (fun hg => ?_) (fun hg => ?_)|refine condb_pos (by assumption) ?_|refine condb_neg (by assumption) ?_|refine condM_b (fun hg => ?_) (fun hg => ?_))
      | ((with_reducible refine oM_gen (fun Kv hK => ?_)); simp [go_sem]; (try simp (disch := omega) only [wrapI64, wrapU8, wrapU32, wrapU64]); (first | refine hK _ _ ?_ | refine And.intro (by omega) (hK _ _ ?_)); clear hK; clear Kv)))
      exact k w2 h2 d2 (t1.trans t2)
    · rw [if_pos hg] at k
      exact k _ _ d1 t1
end
end Go.Proofs
namespace Go.Proofs
open Go Go.Sh Go.RowKit CodeSpec JnSpec DkSpec
set_option linter.unusedSimpArgs false
set_option linter.unusedVariables false
set_option maxRecDepth 10000
attribute [local go_sem] oM_indexAddr
def JO (p : Nat) (v : Value) (i : Nat) : Prop := i = p ∨ v.ownBlock = some i
def jnCells (b : Nat) (f : Int) (v : Value) (j : Jn) : Array Value := #[dkP b, .int .i64 f, v, .int .i64 (j.bytes : Int), .bool j.broken]
structure IsJn (w : World) (b : Nat) (h : Dk) (p : Nat) (f : Int) (j : Jn) (v : Value) : Prop where
  blk : w.heap[p]? = some (.cells (jnCells b f v j) 98 (0, 0))
  row : w.ownsRow 0 9 1 v j.recs.length (j.recs.map Cd.strV)
  sep : ∀ i, JO p v i → ¬ Own b h i ∧ ¬ Rdb h i
  six : ∀ i, JO p v i → 6 ≤ i
  len : j.recs.length ≤ j.bytes ∧ j.bytes ≤ 16777216
structure Sys (w : World) (b : Nat) (A : Ab) (h : Dk) : Prop where
  d : IsDk w b A h
  l : Cd.Laid w
  six : ∀ i, Own b h i → 6 ≤ i
section
variable {w w' : World} {b p : Nat} {A A' : Ab} {h h' : Dk} {f : Int} {j j' : Jn} {v v' : Value} {K : Value → World → Prop}
theorem Sys.step (s : Sys w b A h) (d : IsDk w' b A' h') (t : Step w b h w' h') : Sys w' b A' h' :=
  ⟨d, s.l.keep (fun k hk => t.fr.block k (by have := s.l.size; omega) (fun ho => by have := s.six k ho; omega)) t.fr.size, fun i hi => (t.own i hi).elim (s.six i) (fun hn => by have := s.l.size; omega)⟩
theorem Sys.fresh (s : Sys w b A h) {S : Nat → Prop} (f : Fr S w w') (hs : ∀ i, S i → ¬ (Own b h i ∨ Rdb h i) ∧ 6 ≤ i) : Sys w' b A h :=
  ⟨s.d.keep (fun i hi => f.block i (s.d.lt hi) (fun hx => (hs i hx).1 hi)), s.l.keep (fun k hk => f.block k (by have := s.l.size; omega) (fun hx => by have := (hs k hx).2; omega)) f.size, s.six⟩
theorem Sys.below (s : Sys w b A h) (f : Below w.heap.size w w') : Sys w' b A h :=
  s.fresh (S := fun _ => False) ⟨f.os, f.tape, f.output, f.size, fun i hi _ => f.block i hi⟩ (fun _ h => h.elim)
theorem IsJn.lt (jn : IsJn w b h p f j v) {i : Nat} (hi : JO p v i) : i < w.heap.size := by
  rcases hi with rfl | hi
  · exact (Array.getElem?_eq_some_iff.1 jn.blk).1
  · exact (owns_own jn.row hi).1
theorem IsJn.pv (jn : IsJn w b h p f j v) : v.ownBlock ≠ some p := fun hp => by
  obtain ⟨_, _, cur, hc⟩ := owns_own jn.row hp
  rw [jn.blk] at hc; cases hc
theorem IsJn.keep (jn : IsJn w b h p f j v) {S : Nat → Prop} (g : Fr S w w') (hs : ∀ i, S i → ¬ JO p v i) (ho : ∀ i, Own b h' i ∨ Rdb h' i → Own b h i ∨ Rdb h i ∨ w.heap.size ≤ i) : IsJn w' b h' p f j v := by
  have hb : ∀ i, JO p v i → w'.heap[i]? = w.heap[i]? := fun i hi => g.block i (jn.lt hi) (fun hx => hs i hx hi)
  refine ⟨by rw [hb p (.inl rfl)]; exact jn.blk, owns_keep jn.row (fun i hi => hb i (.inr hi)), fun i hi => ?_, jn.six, jn.len⟩
  have hl := jn.lt hi
  have hs := jn.sep i hi
  exact ⟨fun hx => (ho i (.inl hx)).elim hs.1 (fun hy => hy.elim hs.2 (fun hz => by omega)), fun hx => (ho i (.inr hx)).elim hs.1 (fun hy => hy.elim hs.2 (fun hz => by omega))⟩
theorem IsJn.step (jn : IsJn w b h p f j v) (t : Step w b h w' h') : IsJn w' b h' p f j v :=
  jn.keep t.fr (fun i hi hj => (jn.sep i hj).1 hi) (fun i hi => hi.elim (fun hx => (t.own i hx).elim .inl (fun hy => .inr (.inr hy))) (fun hx => (t.rd i hx).elim (fun hy => .inr (.inl hy)) (fun hy => .inr (.inr hy))))
theorem IsJn.below (jn : IsJn w b h p f j v) (g : Below w.heap.size w w') : IsJn w' b h p f j v :=
  jn.keep (S := fun _ => False) ⟨g.os, g.tape, g.output, g.size, fun i hi _ => g.block i hi⟩ (fun _ h => h.elim) (fun i hi => hi.elim .inl (fun h => .inr (.inl h)))
theorem IsJn.c (jn : IsJn w b h p f j v) (i : Nat) : w.cell? ⟨p, i, none⟩ = (jnCells b f v j)[i]? := cell_of_block jn.blk i
theorem IsJn.fz (jn : IsJn w b h p f j v) (i : Nat) : w.frozen? ⟨p, i, none⟩ = false := frozen_of_block jn.blk i
@[reducible] def jnP (p : Nat) : Value := .pointer (some ⟨p, 0, none⟩)
theorem len_ok (jn : IsJn w b h p f j v) (k : K (.int .i64 (j.recs.length : Int)) w) : callM Tryd.prog 55 #[jnP p] K w := by
  apply sh_55_ok
  unfold sh_55 jnP
  have c2 := jn.c 2
  simp only [jnCells] at c2
  obtain ⟨va, vc, rfl⟩ := owns_len jn.row
  repeat (any_goals ((with_reducible refine idO ?_); (with_reducible refine oM_gen fun Kv hK=>?_); simp [go_sem, c2]; refine hK _ _ ?_; clear hK; clear Kv))
  exact k
theorem get_ok (jn : IsJn w b h p f j v) (i : Int) (k : K (.string ⟨(if i < 0 then [] else j.recs.getD i.toNat []).toArray⟩) w) : callM Tryd.prog 56 #[jnP p, .int .i64 i] K w := by
  apply sh_56_ok
  unfold sh_56 jnP
  have c2 := jn.c 2
  simp only [jnCells] at c2
  obtain ⟨va, vc, rfl⟩ := owns_len jn.row
  by_cases h0 : i < 0
  · rw [if_pos h0] at k
    repeat (any_goals (first
    | (with_reducible first|((refine idGd ?_); ((refine idGdD ?_); refine zJ ?_))|((refine idPick ?_); refine yD ?_)|((refine idCond ?_); refine yL ?_))
    | ((with_reducible refine idO ?_); (with_reducible refine oM_gen fun Kv hK=>?_); simp [go_sem, c2]; refine hK _ _ ?_; clear hK; clear Kv)))
    exact k
  · rw [if_neg h0] at k
    by_cases h1 : (j.recs.length : Int) ≤ i
    · rw [List.getD_eq_getElem?_getD, List.getElem?_eq_none (by omega)] at k
      repeat (any_goals (first
      | (with_reducible first|refine pureM_in ?_|((refine idGd ?_); ((refine idGdD ?_); refine zI ?_))|((refine idPick ?_); refine yE ?_)|((refine idCond ?_); refine yN ?_))
      | ((with_reducible refine idO ?_); (with_reducible refine oM_gen fun Kv hK=>?_); simp [go_sem, c2]; refine hK _ _ ?_; clear hK; clear Kv)))
      exact k
    · obtain ⟨n, rfl⟩ : ∃ n : Nat, i = n := ⟨i.toNat, by omega⟩
      have hn : n < j.recs.length := by omega
      simp only [Int.toNat_natCast, List.getD_eq_getElem?_getD, List.getElem?_eq_getElem hn, Option.getD_some] at k
      obtain ⟨ad, c, e, hc⟩ := Cd.RowOf.of_owns jn.row
      cases e
      rcases hc with hc | ⟨gb, go, rfl, hgb, hc⟩
      · rw [hc] at hn; simp at hn
      have hix := Cd.idx23 (b := gb) (o := go) (c := vc) hn w
      have hcn := hc n hn
      simp only [Cd.strV] at hcn
      repeat (any_goals (first
      | (with_reducible first|refine pureM_in ?_|((refine idGd ?_); ((refine idGdD ?_); refine zI ?_))|((refine idPick ?_); refine yE ?_)|((refine idCond ?_); refine yO ?_))
      | ((with_reducible refine idO ?_); (with_reducible refine oM_gen fun Kv hK=>?_); simp [go_sem, c2, hix, hcn]; refine hK _ _ ?_; clear hK; clear Kv)))
      exact k
end
end Go.Proofs
namespace Go.Proofs
open Go Go.Sh Go.RowKit CodeSpec JnSpec DkSpec
set_option linter.unusedSimpArgs false
set_option linter.unusedVariables false
set_option maxRecDepth 10000
section
variable {w w' : World} {b p : Nat} {A A' : Ab} {h h' : Dk} {f : Int} {j j' : Jn} {v v' : Value} {K : Value → World → Prop}
theorem all_ok (jn : IsJn w b h p f j v) (k : ∀ v' w', w'.ownsRow w.heap.size 9 1 v' j.recs.length (j.recs.map Cd.strV) → Below w.heap.size w w' → K v' w') : callM Tryd.prog 54 #[jnP p] K w := by
  apply sh_54_ok
  unfold sh_54 jnP
  have c2 := jn.c 2
  simp only [jnCells] at c2
  have hlen := jn.len
  have hrow := jn.row
  obtain ⟨va, vc, rfl⟩ := owns_len hrow
  have hmk := run_make (P := Tryd.prog) w 23 9 Tryd.t9 (.string ⟨#[]⟩) Tryd.underlying23 (by kernel_rfl) (by kernel_rfl) .i64 .i64 (j.recs.length : Int) (j.recs.length : Int) (by omega) (Int.le_refl _) (by
    have : Tryd.t9.bytes = 16 := by kernel_rfl
    rw [this]; omega) (by omega)
  simp only [Int.toNat_natCast] at hmk
  have hsz : Tryd.t9.size = 1 := by kernel_rfl
  rw [hsz, Nat.mul_one] at hmk
  obtain ⟨cs, hcs⟩ : ∃ cs, cs = madeCells (Value.string ⟨#[]⟩).cells j.recs.length := ⟨_, rfl⟩
  have hcz : cs.size = j.recs.length := by rw [hcs]; simp [madeCells]
  rw [← hcs] at hmk
  have hb1 : Below w.heap.size w (w.alloc (.cells cs 9)) := (Below.refl _ _).alloc (Nat.le_refl _) _
  have h1 := heap_alloc_new w (.cells cs 9)
  have jn1 := jn.below hb1
  have c21 := jn1.c 2
  simp only [jnCells] at c21
  repeat (any_goals ((with_reducible refine idO ?_); (with_reducible refine oM_gen fun Kv hK=>?_); simp [go_sem, c2, hmk]; refine hK _ _ ?_; clear hK; clear Kv))
  generalize w.alloc (.cells cs 9) = w1 at *
  by_cases hn : j.recs.length = 0
  · have hcp := run_copy_none (P := Tryd.prog) w1 23 23 3 9 (some ⟨w.heap.size, 0, none⟩) va j.recs.length j.recs.length j.recs.length vc Tryd.underlying23 (by kernel_rfl) (by rw [hn]; rfl)
    repeat (any_goals ((with_reducible refine idO ?_); (with_reducible refine oM_gen fun Kv hK=>?_); simp [go_sem, c21, hcp]; refine hK _ _ ?_; clear hK; clear Kv))
    have e0 : j.recs = [] := List.length_eq_zero_iff.1 hn
    refine k _ w1 ⟨by simp, .inr ⟨_, _, _, rfl, Nat.le_refl _, h1, Nat.le_refl _, by unfold maxLen; omega, by omega, by rw [hn, e0]; simp⟩⟩ hb1
  · obtain ⟨g, cap, cur, hv, hg, _, hcur, hcs2, hnc, hcell⟩ := owns_cells jn1.row (by omega)
    cases hv
    have hxl : (j.recs.map Cd.strV).length = j.recs.length := by simp
    have hcp := run_copy_row (P := Tryd.prog) w1 23 23 3 9 w.heap.size 0 j.recs.length j.recs.length ⟨g, 0, none⟩ j.recs.length vc cs 9 (j.recs.map Cd.strV) Tryd.underlying23 (by kernel_rfl) h1 (by rw [hxl]; exact (Nat.min_self _).symm) (fun i x hx => by
      rw [Cd.addr_add, Nat.zero_add]; exact hcell i x hx) (by omega) (by
      intro x hx
      obtain ⟨s, _, rfl⟩ := List.mem_map.1 hx
      rfl)
    repeat (any_goals ((with_reducible refine idO ?_); (with_reducible refine oM_gen fun Kv hK=>?_); simp [go_sem, c21, hcp]; refine hK _ _ ?_; clear hK; clear Kv))
    have e1 : cs.toList.drop j.recs.length = [] := List.drop_eq_nil_of_le (by simp; omega)
    rw [e1, List.append_nil]
    have h2 := setRow_heap w1 w.heap.size cs (j.recs.map Cd.strV).toArray 9 (0, 0) h1
    refine k _ _ ⟨by simp, .inr ⟨_, _, _, rfl, Nat.le_refl _, h2, Nat.le_refl _, by unfold maxLen; omega, by simp, by rw [Nat.mul_one, List.take_of_length_le (by simp)]⟩⟩ (hb1.trans (Cd.below_of_grown (grown_setRow _ _ _) hb1.size (fun i hi => by cases hi; exact Nat.le_refl _)))
end
end Go.Proofs
namespace Go.Proofs
open Go Go.Sh Go.RowKit CodeSpec JnSpec DkSpec
set_option linter.unusedSimpArgs false
set_option linter.unusedVariables false
set_option maxRecDepth 10000
structure JSt (w : World) (b : Nat) (h : Dk) (p : Nat) (v : Value) (w' : World) (h' : Dk) (v' : Value) : Prop where
  fr : Fr (fun i => Own b h i ∨ JO p v i) w w'
  own : ∀ i, Own b h' i → Own b h i ∨ w.heap.size ≤ i
  rd : ∀ i, Rdb h' i → Rdb h i ∨ w.heap.size ≤ i
  jo : ∀ i, JO p v' i → JO p v i ∨ w.heap.size ≤ i
def Same (w W : World) : Prop := W.heap = w.heap ∧ W.os = w.os ∧ W.tape = w.tape ∧ W.output = w.output
theorem Same.below {w W : World} (h : Same w W) : Below w.heap.size w W := ⟨h.2.1, h.2.2.1, h.2.2.2, by rw [h.1]; exact Nat.le_refl _, fun i _ => by rw [h.1]⟩
section
variable {w w' w2 : World} {b p : Nat} {A A' : Ab} {h h' h2 : Dk} {f : Int} {j j' : Jn} {v v' v2 : Value} {K : Value → World → Prop}
theorem JSt.refl : JSt w b h p v w h v := ⟨Fr.refl _ _, fun _ h => .inl h, fun _ h => .inl h, fun _ h => .inl h⟩
theorem JSt.of_step (t : Step w b h w' h') : JSt w b h p v w' h' v := ⟨t.fr.mono (fun _ _ h => .inl h), t.own, t.rd, fun _ h => .inl h⟩
theorem JSt.trans (t : JSt w b h p v w' h' v') (u : JSt w' b h' p v' w2 h2 v2) : JSt w b h p v w2 h2 v2 :=
  ⟨t.fr.trans u.fr (fun i hi => hi.elim (fun h => (t.own i h).elim (fun h => .inl (.inl h)) .inr) (fun h => (t.jo i h).elim (fun h => .inl (.inr h)) .inr)),
   fun i hi => (u.own i hi).elim (t.own i) (fun h => .inr (Nat.le_trans t.fr.size h)),
   fun i hi => (u.rd i hi).elim (t.rd i) (fun h => .inr (Nat.le_trans t.fr.size h)),
   fun i hi => (u.jo i hi).elim (t.jo i) (fun h => .inr (Nat.le_trans t.fr.size h))⟩
theorem JSt.below (g : Below w.heap.size w w') : JSt w b h p v w' h v := ⟨⟨g.os, g.tape, g.output, g.size, fun i hi _ => g.block i hi⟩, fun _ h => .inl h, fun _ h => .inl h, fun _ h => .inl h⟩
theorem IsJn.set4 (jn : IsJn w b h p f j v) (t : Bool) : IsJn (w.setCell ⟨p, 4, none⟩ (.bool t)) b h p f { j with broken := t } v := by
  refine ⟨by rw [block_set jn.blk]; rfl, owns_keep jn.row (fun i hi => setCell_heap_ne _ _ _ _ (fun e => jn.pv (by rw [hi]; exact congrArg some e))), jn.sep, jn.six, jn.len⟩
theorem JSt.set (i : Nat) (u : Value) : JSt w b h p v (w.setCell ⟨p, i, none⟩ u) h v := ⟨(Fr.refl _ _).set _ _ (.inl (.inr (.inl rfl))), fun _ h => .inl h, fun _ h => .inl h, fun _ h => .inl h⟩
theorem Sys.set (s : Sys w b A h) (jn : IsJn w b h p f j v) (i : Nat) (u : Value) : Sys (w.setCell ⟨p, i, none⟩ u) b A h :=
  s.fresh (S := fun k => k = p) ((Fr.refl _ _).set _ _ (.inl rfl)) (fun k hk => by
    subst hk
    have h1 := jn.sep k (.inl rfl)
    exact ⟨fun h => h.elim h1.1 h1.2, jn.six k (.inl rfl)⟩)
theorem Sys.drew (s : Sys w b A h) : Sys { w with drawn := w.drawn + 1 } b A h := s.fresh (S := fun _ => False) ((Fr.refl _ _).drew) (fun _ h => h.elim)
theorem syncJ_ok (s : Sys w b A h) (jn : IsJn w b h p f j v) (k : ∀ w' h', Sys w' b (syncJ A f j).2.1 h' → IsJn w' b h' p f (syncJ A f j).2.2 v → JSt w b h p v w' h' v → K (.int .i64 (syncJ A f j).1) w') : callM Tryd.prog 61 #[jnP p] K w := by
  apply sh_61_ok
  unfold sh_61 jnP
  have c0 := jn.c 0
  have c1 := jn.c 1
  have c4 := jn.c 4
  simp only [jnCells] at c0 c1 c4
  cases hb : j.broken with
  | true =>
    rw [hb] at c4
    unfold syncJ at k
    rw [if_pos hb] at k
    repeat (any_goals (first
    | (with_reducible ((refine idCond ?_); refine yL ?_))
    | ((with_reducible refine idO ?_); (with_reducible refine oM_gen fun Kv hK=>?_); simp [go_sem, c4]; refine hK _ _ ?_; clear hK; clear Kv)))
    exact k w h s jn JSt.refl
  | false =>
    rw [hb] at c4
    unfold syncJ at k
    rw [if_neg (by rw [hb]; simp)] at k
    repeat (any_goals (first
    | (with_reducible ((refine idCond ?_); refine yM ?_))
    | ((with_reducible refine idO ?_); (with_reducible refine oM_gen fun Kv hK=>?_); simp [go_sem, c4]; refine hK _ _ ?_; clear hK; clear Kv)))
    refine ⟨Same w, ⟨rfl, rfl, rfl, rfl⟩, ?_⟩
    refine ⟨rfl, ?_⟩
    repeat (first | (with_reducible refine pureH_in ?_) | (with_reducible refine oH_nil ?_) | (with_reducible refine gdH_true rfl ?_) | (with_reducible refine gdH_false rfl ?_) | (refine oH_of ⟨_, rfl⟩ (fun W0 hW0 => by (refine oM_gen (fun Kv hK => ?_)); simp [go_sem, cell_heap hW0.1, c0, c1]; (first | exact hK _ _ ⟨rfl, rfl⟩ | exact ⟨by omega, hK _ _ ⟨rfl, rfl⟩⟩)) ?_))
    refine ⟨fun _ _ => True, fun w1 hw1 => ?_⟩
    have s1 := s.below hw1.below
    have jn1 := jn.below hw1.below
    refine Sync_ok s1.d f (fun w2 h2 d2 t2 => ?_)
    have s2 := s1.step d2 t2
    have jn2 := jn1.step t2
    have c42 := jn2.c 4
    have f42 := jn2.fz 4
    simp only [jnCells] at c42
    have e1 : (decide ((syncA A f).1 ≠ 0)) = !decide ((syncA A f).1 = 0) := by simp
    repeat (any_goals ((with_reducible refine idO ?_); (with_reducible refine oM_gen fun Kv hK=>?_); simp [go_sem, c42, f42]; refine hK _ _ ?_; clear hK; clear Kv))
    rw [← e1]
    exact k _ h2 (s2.set jn2 4 _) (jn2.set4 _) ((JSt.below hw1.below).trans ((JSt.of_step t2).trans (JSt.set 4 _)))
theorem append_ok (s : Sys w b A h) (jn : IsJn w b h p f j v) (hf : 0 ≤ f ∧ f ≤ 15) (t : List UInt8) (ht : t.length ≤ 16777216) (k : ∀ w' h' v', Sys w' b (appendJ A f j t).2.1 h' → IsJn w' b h' p f (appendJ A f j t).2.2 v' → JSt w b h p v w' h' v' → K (.int .i64 (appendJ A f j t).1) w') : callM Tryd.prog 50 #[jnP p, .string ⟨t.toArray⟩] K w := by
  apply sh_50_ok
  unfold sh_50 jnP
  refine form_ok t ht s.l (fun w1 hb1 => ?_)
  have s1 := s.below hb1
  have jn1 := jn.below hb1
  have j1 : JSt w b h p v w1 h v := JSt.below hb1
  have hfl := form_len ht
  have hfp := form_pos t
  have hl := jn.len
  clear hb1 s jn
  have c0 := jn1.c 0
  have c1 := jn1.c 1
  have c3 := jn1.c 3
  have c4 := jn1.c 4
  simp only [jnCells] at c0 c1 c3 c4
  cases hb : j.broken with
  | true =>
    rw [hb] at c4
    unfold appendJ at k
    rw [if_pos hb] at k
    repeat (any_goals (first
    | (with_reducible ((refine idCond ?_); refine yL ?_))
    | ((with_reducible refine idO ?_); (with_reducible refine oM_gen fun Kv hK=>?_); simp [go_sem, c4]; refine hK _ _ ?_; clear hK; clear Kv)))
    exact k w1 h v s1 jn1 j1
  | false =>
    rw [hb] at c4
    unfold appendJ at k
    rw [if_neg (by rw [hb]; simp)] at k
    by_cases h1 : 20000 < t.length
    · rw [if_pos h1] at k
      repeat (any_goals (first
      | (with_reducible ((refine idCond ?_); first|refine yM ?_|refine yN ?_))
      | ((with_reducible refine idO ?_); (with_reducible refine oM_gen fun Kv hK=>?_); simp [go_sem, c4]; refine hK _ _ ?_; clear hK; clear Kv)))
      exact k w1 h v s1 jn1 j1
    rw [if_neg h1] at k
    by_cases h2 : 1048576 < j.bytes + (form t).length
    · rw [if_pos h2] at k
      repeat (any_goals (first
      | (with_reducible ((refine idCond ?_); first|refine yM ?_|refine yN ?_|refine yO ?_))
      | ((with_reducible refine idO ?_); (with_reducible refine oM_gen fun Kv hK=>?_); simp [go_sem, c4, c3]; (try simp (disch := omega) only [wrapI64, wrapU8, wrapU32, wrapU64]); refine hK _ _ ?_; clear hK; clear Kv)))
      exact k w1 h v s1 jn1 j1
    rw [if_neg h2] at k
    repeat (any_goals (first
    | (with_reducible ((refine idCond ?_); first|refine yM ?_|refine yO ?_))
    | ((with_reducible refine idO ?_); (with_reducible refine oM_gen fun Kv hK=>?_); simp [go_sem, c4, c3]; (try simp (disch := omega) only [wrapI64, wrapU8, wrapU32, wrapU64]); refine hK _ _ ?_; clear hK; clear Kv)))
    refine ⟨Same w1, ⟨rfl, rfl, rfl, rfl⟩, ?_⟩
    refine ⟨rfl, ?_⟩
    repeat (first | (with_reducible refine pureH_in ?_) | (with_reducible refine oH_nil ?_) | (with_reducible refine gdH_true rfl ?_) | (with_reducible refine gdH_false rfl ?_) | (refine oH_of ⟨_, rfl⟩ (fun W0 hW0 => by (refine oM_gen (fun Kv hK => ?_)); simp [go_sem, cell_heap hW0.1, c0, c1, c3]; (first | exact hK _ _ ⟨rfl, rfl⟩ | exact ⟨by omega, hK _ _ ⟨rfl, rfl⟩⟩)) ?_))
    refine ⟨fun _ _ => True, fun w2 hw2 => ?_⟩
    have s2 := s1.below hw2.below
    have jn2 := jn1.below hw2.below
    have j2 := j1.trans (JSt.below hw2.below)
    clear s1 jn1 j1 hw2 c0 c1 c3 c4
    refine Write_ok s2.d f j.bytes (form t) (by omega) (by omega) (fun w3 hh3 d3 t3 => ?_)
    have s3 := s2.step d3 t3
    have jn3 := jn2.step t3
    have j3 := j2.trans (JSt.of_step t3)
    clear s2 jn2 j2 t3 d3
    by_cases h3 : (writeA A f j.bytes (form t)).1 = 0
    · rw [if_neg (by rw [h3]; simp)] at k
      repeat (any_goals (first
      | (with_reducible ((refine idCond ?_); refine yR ?_))
      | ((with_reducible refine idO ?_); (with_reducible refine oM_gen fun Kv hK=>?_); simp [go_sem]; refine hK _ _ ?_; clear hK; clear Kv)))
      have b3 := jn3.blk
      have hwr : IntKind.i64.wrap ((j.bytes : Int) + ((form t).length : Int)) = ((j.bytes + (form t).length : Nat) : Int) := by rw [wrapI64] <;> omega
      refine ⟨fun sg W => sg ≤ 2 → W.heap[p]? = some (.cells (jnCells b f v j) 98 (0, 0)), fun _ => b3, ?_⟩
      iterate 11 (first | (with_reducible refine pureH_in ?_) | (with_reducible refine oH_nil ?_) | (with_reducible refine gdH_true rfl ?_) | (with_reducible refine gdH_false rfl ?_) | (refine oH_of ⟨_, rfl⟩ (fun W0 hW0 => by (obtain ⟨s0, hs0, hC⟩ := hW0); (have hsk : s0 ≤ 2 := by omega); (refine oM_gen (fun Kv hK => ?_)); simp [go_sem, cell_of_block (hC hsk), jnCells]; (first | exact hK _ _ ⟨rfl, rfl⟩ | exact ⟨by omega, hK _ _ ⟨rfl, rfl⟩⟩)) ?_))
      repeat (first | (with_reducible refine pureH_in ?_) | (with_reducible refine oH_nil ?_) | (with_reducible refine gdH_true rfl ?_) | (with_reducible refine gdH_false rfl ?_) | (refine oH_of ⟨_, rfl⟩ (fun W0 hW0 => by (obtain ⟨s0, hs0, hC⟩ := hW0); (refine oM_gen (fun Kv hK => ?_)); simp [go_sem, hwr]; (first | exact hK _ _ ⟨rfl, rfl⟩ | exact ⟨by omega, hK _ _ ⟨rfl, rfl⟩⟩)) ?_))
      have s4 := s3.drew
      have jn4 := jn3.below (w' := { w3 with drawn := w3.drawn + 1 }) ((Below.refl _ _).drew)
      have j4 := j3.trans (JSt.below (w' := { w3 with drawn := w3.drawn + 1 }) ((Below.refl _ _).drew))
      generalize ({ w3 with drawn := w3.drawn + 1 } : World) = w4 at *
      clear s3 jn3 j3 b3
      repeat (any_goals ((with_reducible refine idO ?_); (with_reducible refine oM_gen fun Kv hK=>?_); simp [go_sem]; refine hK _ _ ?_; clear hK; clear Kv))
      have hb5 : Below w4.heap.size w4 (w4.alloc (.cells #[.string ⟨t.toArray⟩] 9)) := (Below.refl _ _).alloc (Nat.le_refl _) _
      have hn5 := heap_alloc_new w4 (.cells #[.string ⟨t.toArray⟩] 9)
      have s5 := s4.below hb5
      have jn5 := jn4.below hb5
      have j5 := j4.trans (JSt.below hb5)
      generalize w4.alloc (.cells #[.string ⟨t.toArray⟩] 9) = w5 at *
      clear s4 jn4 j4
      have b5 := jn5.blk
      have hp5 := jn5.lt (.inl rfl)
      refine ⟨fun _ => b5, ?_⟩
      refine append_at 23 23 9 Tryd.t9 (.string ⟨#[]⟩) 1 16 Tryd.underlying23 (by kernel_rfl) (by kernel_rfl) (by kernel_rfl) (by kernel_rfl) rfl (by omega) jn5.row [Cd.strV t] rfl (fun e => by cases e) (fun a ha i u hu => by
        cases ha
        rw [Cd.addr_add, Nat.zero_add, cell_of_block hn5]
        match i, hu with
        | 0, hu => exact hu
        | i + 1, hu => simp at hu) (by intro u hu; simp only [List.mem_singleton] at hu; subst hu; rfl) (by unfold maxLen; omega) (by omega) (fun v6 w6 ho6 hg6 hv6 => ?_)
      have b6 : w6.heap[p]? = some (.cells (jnCells b f v j) 98 (0, 0)) := (hg6.block p hp5 (fun e => jn5.pv e.symm)).trans b5
      refine ⟨fun _ => b6, ?_⟩
      have f62 := frozen_of_block b6 2
      have c63 := block_set (i := 2) b6 v6
      have f63 := frozen_of_block c63 3
      have c62 := cell_of_block b6 2
      have c633 := cell_of_block c63 3
      simp [jnCells] at c62 c633
      obtain ⟨va6, vc6, rfl⟩ := owns_len ho6
      repeat (any_goals (first
      | (refine ⟨fun hh => absurd hh (by decide), ?_⟩)
      | ((with_reducible refine idO ?_); (with_reducible refine oM_gen fun Kv hK=>?_); simp [go_sem, c62, c633, f62, f63]; refine hK _ _ ?_; clear hK; clear Kv)))
      obtain ⟨v6, hv6e⟩ : ∃ v6, v6 = Value.slice va6 (j.recs.length + 1) vc6 := ⟨_, rfl⟩
      rw [← hv6e] at c63 ho6 hv6 ⊢
      have c64 := block_set (i := 3) c63 (.int .i64 ((j.bytes + (form t).length : Nat) : Int))
      have hz6 := hg6.size
      have hpv6 : v6.ownBlock ≠ some p := fun e => (hv6 p e).elim (fun e => jn5.pv e) (fun e => by omega)
      have hz5 := s5.l.size
      have hF : Fr (JO p v) w5 ((w6.setCell ⟨p, 2, none⟩ v6).setCell ⟨p, 3, none⟩ (.int .i64 ((j.bytes + (form t).length : Nat) : Int))) :=
        (((Fr.refl (JO p v) w5).by hg6 (fun i e => .inl (.inr e))).set _ _ (.inl (.inl rfl))).set _ _ (.inl (.inl rfl))
      refine k _ hh3 v6 (s5.fresh hF (fun i hi => ⟨fun e => e.elim (jn5.sep i hi).1 (jn5.sep i hi).2, jn5.six i hi⟩)) ⟨?_, ?_, ?_, ?_, ?_⟩ (j5.trans ⟨hF.mono (fun _ _ h => .inr h), fun _ h => .inl h, fun _ h => .inl h, ?_⟩)
      · refine Eq.trans c64 ?_
        simp [jnCells, hb]
      · simp only [List.length_append, List.length_singleton, List.map_append, List.map_cons, List.map_nil]
        refine owns_keep ho6 (fun i hi => ?_)
        have hip : i ≠ p := fun e => hpv6 (by rw [← e]; exact hi)
        rw [setCell_heap_ne _ _ _ _ hip, setCell_heap_ne _ _ _ _ hip]
      · rintro i (rfl | hi)
        · exact jn5.sep _ (.inl rfl)
        · rcases hv6 i hi with e | e
          · exact jn5.sep i (.inr e)
          · exact ⟨fun ho => by have := s5.d.lt (.inl ho); omega, fun ho => by have := s5.d.lt (.inr ho); omega⟩
      · rintro i (rfl | hi)
        · exact jn5.six _ (.inl rfl)
        · rcases hv6 i hi with e | e
          · exact jn5.six i (.inr e)
          · omega
      · simp only [List.length_append, List.length_singleton]
        omega
      · rintro i (rfl | hi)
        · exact .inl (.inl rfl)
        · exact (hv6 i hi).imp .inr id
    · rw [if_pos h3] at k
      have c43 := jn3.c 4
      have f43 := jn3.fz 4
      simp only [jnCells] at c43
      repeat (any_goals (first
      | (with_reducible ((refine idCond ?_); refine yQ ?_))
      | ((with_reducible refine idO ?_); (with_reducible refine oM_gen fun Kv hK=>?_); simp [go_sem, c43, f43]; refine hK _ _ ?_; clear hK; clear Kv)))
      exact k _ hh3 v (s3.set jn3 4 _) (jn3.set4 _) (j3.trans (JSt.set 4 _))
end
end Go.Proofs
namespace Go.Proofs
open Go Go.Sh Go.RowKit CodeSpec JnSpec DkSpec
set_option linter.unusedSimpArgs false
set_option linter.unusedVariables false
set_option maxRecDepth 10000
section
variable {w w' w2 : World} {b p : Nat} {A A' : Ab} {h h' h2 : Dk} {f : Int} {j j' : Jn} {v v' v2 : Value} {K : Value → World → Prop}
theorem Step.below (g : Below w.heap.size w w') : Step w b h w' h := ⟨⟨g.os, g.tape, g.output, g.size, fun i hi _ => g.block i hi⟩, fun _ h => .inl h, fun _ h => .inl h⟩
theorem readA_len (A : Ab) (f a n : Int) : (readA A f a n).1.length ≤ (A.F f).1.length := by
  unfold readA
  split
  · simp
  · split
    · simp
    · simp; omega
theorem formL_len (l : List Bs) : l.length ≤ (formL l).length := by
  induction l with
  | nil => simp
  | cons t l ih =>
    have := form_pos t
    rw [formL_cons, List.length_append, List.length_cons]
    omega
def Opened (w : World) (b : Nat) (h : Dk) (w0 : World) (f : Int) (r : Value) : Option Jn → Prop
  | none => r = .pointer none
  | some j => ∃ p v, r = jnP p ∧ IsJn w b h p f j v ∧ ∀ i, JO p v i → w0.heap.size ≤ i
theorem owns_zero {w : World} {B : Nat} {e : TypeId} {sz n : Nat} {v : Value} {xs : List Value} (h : w.ownsRow B e sz v n xs) : w.ownsRow 0 e sz v n xs := by
  refine ⟨h.1, h.2.imp id ?_⟩
  rintro ⟨g, cap, cur, a, b, c⟩
  exact ⟨g, cap, cur, a, Nat.zero_le _, c⟩
theorem opened_new {w0 w2 w3 : World} {C : Ab} {h1 h3 : Dk} {recs : List Bs} {n : Nat} (s3 : Sys w3 b C h3) (t3 : Step w2 b h1 w3 h3) (ho : w2.ownsRow 0 9 1 v recs.length (recs.map Cd.strV)) (hvo : ∀ i, v.ownBlock = some i → w0.heap.size ≤ i)
    (hvd : ∀ i, v.ownBlock = some i → ¬ Own b h1 i ∧ ¬ Rdb h1 i) (h6 : 6 ≤ w0.heap.size) (hz : w0.heap.size ≤ w2.heap.size) (hn : recs.length ≤ n ∧ n ≤ 16777216) :
    Sys (w3.alloc (.cells #[dkP b, .int .i64 f, v, .int .i64 (n : Int), .bool false] 98)) b C h3 ∧ Step w2 b h1 (w3.alloc (.cells #[dkP b, .int .i64 f, v, .int .i64 (n : Int), .bool false] 98)) h3 ∧
    Opened (w3.alloc (.cells #[dkP b, .int .i64 f, v, .int .i64 (n : Int), .bool false] 98)) b h3 w0 f (jnP w3.heap.size) (some ⟨recs, n, false⟩) := by
  have hb : Below w3.heap.size w3 (w3.alloc (.cells #[dkP b, .int .i64 f, v, .int .i64 (n : Int), .bool false] 98)) := (Below.refl _ _).alloc (Nat.le_refl _) _
  have hnew := heap_alloc_new w3 (.cells #[dkP b, .int .i64 f, v, .int .i64 (n : Int), .bool false] 98)
  generalize w3.alloc (.cells #[dkP b, .int .i64 f, v, .int .i64 (n : Int), .bool false] 98) = w4 at *
  have hz3 := t3.fr.size
  refine ⟨s3.below hb, t3.trans (Step.below hb), _, v, rfl, ⟨hnew, ?_, ?_, ?_, hn⟩, ?_⟩
  · refine owns_keep ho (fun i hi => ?_)
    have hl := (owns_own ho hi).1
    rw [hb.block i (by omega)]
    exact t3.fr.block i hl (hvd i hi).1
  · rintro i (rfl | hi)
    · exact ⟨fun ho => by have := s3.d.lt (.inl ho); omega, fun ho => by have := s3.d.lt (.inr ho); omega⟩
    · have hl := (owns_own ho hi).1
      exact ⟨fun hx => (t3.own i hx).elim (hvd i hi).1 (fun h => by omega), fun hx => (t3.rd i hx).elim (hvd i hi).2 (fun h => by omega)⟩
  · rintro i (rfl | hi)
    · omega
    · have := hvo i hi; omega
  · rintro i (rfl | hi)
    · omega
    · exact hvo i hi
theorem openJ_ok (s : Sys w b A h) (f : Int) (k : ∀ w' h' r, Sys w' b (openJ A f).2.2 h' → Step w b h w' h' → Opened w' b h' w f r (openJ A f).1 → K (.tuple #[r, .int .i64 (openJ A f).2.1]) w') : callM Tryd.prog 49 #[dkP b, .int .i64 f] K w := by
  apply sh_49_ok
  unfold sh_49
  unfold openJ at k
  by_cases hf : f < 0 ∨ 15 < f
  · rw [if_pos hf] at k
    by_cases h0 : f < 0
    · repeat (any_goals (first
      | (with_reducible first|((refine idGd ?_); ((refine idGdD ?_); refine zJ ?_))|((refine idPick ?_); refine yD ?_)|((refine idCond ?_); refine yL ?_))
      | ((with_reducible refine idO ?_); (with_reducible refine oM_gen fun Kv hK=>?_); simp [go_sem]; refine hK _ _ ?_; clear hK; clear Kv)))
      exact k w h _ s (Step.refl _ _ _) rfl
    · have h1 : 15 < f := hf.resolve_left h0
      repeat (any_goals (first
      | (with_reducible first|refine pureM_in ?_|((refine idGd ?_); ((refine idGdD ?_); refine zI ?_))|((refine idPick ?_); refine yE ?_)|((refine idCond ?_); refine yN ?_))
      | ((with_reducible refine idO ?_); (with_reducible refine oM_gen fun Kv hK=>?_); simp [go_sem]; refine hK _ _ ?_; clear hK; clear Kv)))
      exact k w h _ s (Step.refl _ _ _) rfl
  rw [if_neg hf] at k
  have h0 : ¬ f < 0 := fun e => hf (.inl e)
  have h1 : ¬ 15 < f := fun e => hf (.inr e)
  repeat (any_goals (first
  | (with_reducible first|refine pureM_in ?_|((refine idGd ?_); ((refine idGdD ?_); refine zI ?_))|((refine idPick ?_); refine yE ?_)|((refine idCond ?_); refine yO ?_))
  | ((with_reducible refine idO ?_); (with_reducible refine oM_gen fun Kv hK=>?_); simp [go_sem]; refine hK _ _ ?_; clear hK; clear Kv)))
  refine Sync_ok s.d f (fun w1 h1' d1 t1 => ?_)
  have s1 := s.step d1 t1
  by_cases he : (syncA A f).1 = 0
  · rw [if_neg (by simp [he])] at k
    repeat (any_goals (first
    | (with_reducible ((refine idCond ?_); refine yR ?_))
    | ((with_reducible refine idO ?_); (with_reducible refine oM_gen fun Kv hK=>?_); simp [go_sem]; refine hK _ _ ?_; clear hK; clear Kv)))
    refine size_ok s1.d f ?_
    refine read_ok s1.d f 0 _ ?_
    have hrl := readA_len (syncA A f).2 f 0 ((((syncA A f).2.F f).1.length : Nat) : Int)
    have hsz := (s1.d.wf.sz f).1
    generalize (syncA A f).2 = B at *
    unfold openB at k
    generalize readA B f 0 (((B.F f).1.length : Nat) : Int) = r at *
    obtain ⟨x, e⟩ := r
    dsimp only at k hrl ⊢
    by_cases h2 : e = 0
    · rw [if_neg (by simp [h2])] at k
      repeat (any_goals (first
      | (with_reducible ((refine idCond ?_); refine yR ?_))
      | ((with_reducible refine idO ?_); (with_reducible refine oM_gen fun Kv hK=>?_); simp [go_sem]; refine hK _ _ ?_; clear hK; clear Kv)))
      refine readJ_ok x (by omega) s1.l (fun v w2 ho2 hb2 => ?_)
      have hrs := readJ_spec x
      have hrl1 := formL_len (readJ x).1
      rw [← hrs.2.1] at hrl1
      have hrl2 : (readJ x).2 ≤ x.length := by
        have := congrArg List.length hrs.2.2.1
        rw [List.length_append, ← hrs.2.1] at this
        omega
      clear hrs
      have s2 := s1.below hb2
      have t2 := t1.trans (Step.below (b := b) (h := h1') hb2)
      have hz1 := t1.fr.size
      have hvo : ∀ i, v.ownBlock = some i → w1.heap.size ≤ i := fun i hi => (owns_own ho2 hi).2.1
      have ho20 : w2.ownsRow 0 9 1 v (readJ x).1.length ((readJ x).1.map Cd.strV) := owns_zero ho2
      have hvd : ∀ i, v.ownBlock = some i → ¬ Own b h1' i ∧ ¬ Rdb h1' i := fun i hi => by
        have h3 := hvo i hi
        exact ⟨fun ho => by have := s1.d.lt (.inl ho); omega, fun ho => by have := s1.d.lt (.inr ho); omega⟩
      have hz2 := hb2.size
      have hz5 := s.l.size
      by_cases h3 : (readJ x).2 < x.length
      · rw [if_pos h3] at k
        by_cases h4 : (truncA B f (readJ x).2).1 = 0
        · rw [if_neg (by simp [h4])] at k
          repeat (any_goals ((with_reducible refine idO ?_); (with_reducible refine oM_gen fun Kv hK=>?_); simp [go_sem]; refine hK _ _ ?_; clear hK; clear Kv))
          refine ⟨fun vs W => ∃ u h', vs = [u, .pointer none, .int .i64 0] ∧ Sys W b (truncA B f (readJ x).2).2 h' ∧ Step w2 b h1' W h', ?_, ?_⟩
          · repeat (any_goals (first
            | (with_reducible ((refine idCond ?_); refine yN ?_))
            | ((with_reducible refine idO ?_); (with_reducible refine oM_gen fun Kv hK=>?_); simp [go_sem]; refine hK _ _ ?_; clear hK; clear Kv)))
            refine Trunc_ok s2.d f (readJ x).2 (fun w3 h3' d3 t3 => ?_)
            repeat (any_goals (first
            | (with_reducible ((refine idCond ?_); refine yR ?_))
            | ((with_reducible refine idO ?_); (with_reducible refine oM_gen fun Kv hK=>?_); simp [go_sem]; refine hK _ _ ?_; clear hK; clear Kv)))
            exact ⟨_, h3', rfl, s2.step d3 t3, t3⟩
          · rintro _ _ w3 ⟨u, h3', rfl, s3, t3⟩
            obtain ⟨va, vc, hve⟩ := owns_len ho20
            have hve2 := hve
            subst hve
            repeat (any_goals ((with_reducible refine idO ?_); (with_reducible refine oM_gen fun Kv hK=>?_); simp [go_sem]; refine hK _ _ ?_; clear hK; clear Kv))
            obtain ⟨s4, t4, o4⟩ := opened_new (f := f) (w0 := w) (n := (readJ x).2) s3 t3 ho20 (fun i hi => Nat.le_trans hz1 (hvo i hi)) hvd (by omega) (by omega) ⟨hrl1, by omega⟩
            exact k _ h3' _ s4 (t2.trans t4) o4
        · rw [if_pos h4] at k
          repeat (any_goals ((with_reducible refine idO ?_); (with_reducible refine oM_gen fun Kv hK=>?_); simp [go_sem]; refine hK _ _ ?_; clear hK; clear Kv))
          refine ⟨fun _ _ => False, ?_, fun _ _ _ h => h.elim⟩
          repeat (any_goals (first
          | (with_reducible ((refine idCond ?_); refine yN ?_))
          | ((with_reducible refine idO ?_); (with_reducible refine oM_gen fun Kv hK=>?_); simp [go_sem]; refine hK _ _ ?_; clear hK; clear Kv)))
          refine Trunc_ok s2.d f (readJ x).2 (fun w3 h3' d3 t3 => ?_)
          repeat (any_goals (first
          | (with_reducible ((refine idCond ?_); refine yQ ?_))
          | ((with_reducible refine idO ?_); (with_reducible refine oM_gen fun Kv hK=>?_); simp [go_sem]; refine hK _ _ ?_; clear hK; clear Kv)))
          exact k w3 h3' _ (s2.step d3 t3) (t2.trans t3) rfl
      · rw [if_neg h3] at k
        repeat (any_goals ((with_reducible refine idO ?_); (with_reducible refine oM_gen fun Kv hK=>?_); simp [go_sem]; refine hK _ _ ?_; clear hK; clear Kv))
        refine ⟨fun vs W => ∃ u h', vs = [u, .pointer none, .int .i64 0] ∧ Sys W b B h' ∧ Step w2 b h1' W h', ?_, ?_⟩
        · repeat (any_goals (first
          | (with_reducible ((refine idCond ?_); refine yO ?_))
          | ((with_reducible refine idO ?_); (with_reducible refine oM_gen fun Kv hK=>?_); simp [go_sem]; refine hK _ _ ?_; clear hK; clear Kv)))
          exact ⟨_, h1', rfl, s2, Step.refl _ _ _⟩
        · rintro _ _ w3 ⟨u, h3', rfl, s3, t3⟩
          obtain ⟨va, vc, hve⟩ := owns_len ho20
          subst hve
          repeat (any_goals ((with_reducible refine idO ?_); (with_reducible refine oM_gen fun Kv hK=>?_); simp [go_sem]; refine hK _ _ ?_; clear hK; clear Kv))
          obtain ⟨s4, t4, o4⟩ := opened_new (f := f) (w0 := w) (n := (readJ x).2) s3 t3 ho20 (fun i hi => Nat.le_trans hz1 (hvo i hi)) hvd (by omega) (by omega) ⟨hrl1, by omega⟩
          exact k _ h3' _ s4 (t2.trans t4) o4
    · rw [if_pos h2] at k
      repeat (any_goals (first
      | (with_reducible ((refine idCond ?_); refine yQ ?_))
      | ((with_reducible refine idO ?_); (with_reducible refine oM_gen fun Kv hK=>?_); simp [go_sem]; refine hK _ _ ?_; clear hK; clear Kv)))
      exact k w1 h1' _ s1 t1 rfl
  · rw [if_pos he] at k
    repeat (any_goals (first
    | (with_reducible ((refine idCond ?_); refine yQ ?_))
    | ((with_reducible refine idO ?_); (with_reducible refine oM_gen fun Kv hK=>?_); simp [go_sem]; refine hK _ _ ?_; clear hK; clear Kv)))
    exact k w1 h1' _ s1 t1 rfl
end
end Go.Proofs
namespace Go.Proofs.Cd
open Go Go.Sh Go.RowKit Go.Lib CodeSpec Go.Proofs
set_option linter.unusedSimpArgs false
set_option maxRecDepth 10000
set_option maxHeartbeats 1600000 in
theorem sameTexts_ok (xs ys : List (List UInt8)) (v u : Value) {K : Value → World → Prop} {w : World} (hv : RowOf strV w v xs) (hu : RowOf strV w u ys) (hx : xs.length < 2^60) (hy : ys.length < 2^60) (k : ∀ w', Below w.heap.size w w' → K (.bool (decide (xs = ys))) w') : callM Tryd.prog 40 #[v, u] K w := by
  apply sh_40_ok
  unfold sh_40
  obtain ⟨a, c, rfl, hv⟩ := hv
  obtain ⟨a', c', rfl, hu⟩ := hu
  have kno : ∀ w', Below w.heap.size w w' → xs ≠ ys → K (.bool false) w' := fun w' hb hne => K_eq (k w' hb) (by rw [decide_eq_false hne])
  repeat (any_goals (first
  | (with_reducible refine pureM_in ?_)
  | (with_reducible first|refine pureQ_in ?_|refine gdQ_conv (fun _ => ?_)|refine pickQT ?_|refine pickQF ?_|refine pickQ_pos (by first|assumption|omega) ?_|refine pickQ_neg (by first|assumption|omega) ?_|refine pickQn_pos (by first|assumption|omega) ?_|refine pickQn_neg (by first|assumption|omega) ?_) | ((with_reducible refine oQ_one ?_ ?_); exact ⟨_, rfl⟩) | (with_reducible first|refine And.intro (Eq.refl (α := World) _) ?_|refine forall_one ?_|refine oQ_nil ?_) | (with_reducible refine oQ_of ⟨_, rfl⟩ (fun W0 hW0 => by (refine oM_gen (fun Kv hK => ?_)); simp [go_sem]; (first | exact hK _ _ ⟨rfl, rfl⟩ | exact ⟨by omega, hK _ _ ⟨rfl, rfl⟩⟩)) ?_)
  | (with_reducible first|refine gdtT ?_|refine gdtF ?_|refine gdfF ?_|refine gdfT ?_|refine gdu ?_ _|refine gdt_pos (by first|assumption|omega) ?_|refine gdt_neg (by first|assumption|omega) ?_|refine gdt_split (fun hg => ?_) (fun hg => ?_)|refine gdf_pos (by first|assumption|omega) ?_|refine gdf_neg (by first|assumption|omega) ?_|refine gdf_split (fun hg => ?_) (fun hg => ?_)|refine gdtn_pos (by first|assumption|omega) ?_|refine gdtn_neg (by first|assumption|omega) ?_|refine gdtn_split (fun hg => ?_) (fun hg => ?_)|refine gdfn_pos (by first|assumption|omega) ?_|refine gdfn_neg (by first|assumption|omega) ?_|refine gdfn_split (fun hg => ?_) (fun hg => ?_)|refine gdtbn_pos (by assumption) ?_|refine gdtbn_neg (by assumption) ?_|refine gdfbn_pos (by assumption) ?_|refine gdfbn_neg (by assumption) ?_|refine gdtb_pos (by assumption) ?_|refine gdtb_neg (by assumption) ?_|refine gdtb_split (fun hg => ?_) (fun hg => ?_)|refine gdfb_pos (by assumption) ?_|refine gdfb_neg (by assumption) ?_|refine gdfb_split (fun hg => ?_) (fun hg => ?_)|refine pickT ?_|refine pickF ?_|refine pick_pos (by first|assumption|omega) ?_|refine pick_neg (by first|assumption|omega) ?_|refine pickn_pos (by first|assumption|omega) ?_|refine pickn_neg (by first|assumption|omega) ?_|refine pickbn_pos (by assumption) ?_|refine pickbn_neg (by assumption) ?_|refine pickb_pos (by assumption) ?_|refine pickb_neg (by assumption) ?_|refine condT ?_|refine condF ?_|refine cond_pos (by first|assumption|omega) ?_|refine cond_neg (by first|assumption|omega) ?_|refine condM_dec (fun hg => ?_) (fun hg => ?_)|refine condn_pos (by first|assumption|omega) ?_|refine condn_neg (by first|assumption|omega) ?_|refine condM_ndec (fun hg => ?_) (fun hg => ?_)|refine condbn_pos (by assumption) ?_|refine condbn_neg (by assumption) ?_|refine condbn_split (fun hg => ?_) (fun hg => ?_)|refine condb_pos (by assumption) ?_|refine condb_neg (by assumption) ?_|refine condM_b (fun hg => ?_) (fun hg => ?_))
  | ((with_reducible refine oM_gen (fun Kv hK => ?_)); simp [go_sem]; (try simp (disch := omega) only [wrapI64, wrapU8, wrapU32, wrapU64]); (first | refine hK _ _ ?_ | refine And.intro (by omega) (hK _ _ ?_)); clear hK; clear Kv)))
  · refine ⟨fun l w' => ∃ k : Nat, l = [.bool false, .int .i64 k] ∧ k ≤ xs.length ∧ Below w.heap.size w w' ∧ xs.take k = ys.take k, fun l _ => xs.length - (match l with | [_, .int _ n] => n.toNat | _ => 0), ⟨0, rfl, by omega, Below.refl _ _, by simp⟩, ?_⟩
    rintro _ _ w1 ⟨j, rfl, hj, hb, hpre⟩
    simp only [List.getD_cons_zero, List.getD_cons_succ]
    have hlm : xs.length = ys.length := by omega
    by_cases hlt : j < xs.length
    · have hltm : j < ys.length := by omega
      rcases hv with rfl | ⟨b, o, rfl, hbw, hcells⟩
      · simp at hlt
      rcases hu with rfl | ⟨b', o', rfl, hbw', hcells'⟩
      · simp at hltm
      have h0 := hcells j hlt
      have g0 := hcells' j hltm
      rw [← hb.cell hbw] at h0
      rw [← hb.cell hbw'] at g0
      simp only [strV] at h0 g0
      obtain ⟨w2, hw2⟩ : ∃ w2, w2 = { w1 with drawn := w1.drawn + 1 } := ⟨_, rfl⟩
      have hce : ∀ p, w2.cell? p = w1.cell? p := by rw [hw2]; exact fun _ => rfl
      rw [← hce] at h0 g0
      have d1 := idx23 (b := b) (o := o) (c := c) hlt w2
      have e1 := idx23 (b := b') (o := o') (c := c') hltm w2
      have hb2 : Below w.heap.size w w2 := by rw [hw2]; exact hb.drew
      repeat (any_goals (first
      | (with_reducible refine pureM_in ?_)
      | (with_reducible first|refine pureQ_in ?_|refine gdQ_conv (fun _ => ?_)|refine pickQT ?_|refine pickQF ?_|refine pickQ_pos (by first|assumption|omega) ?_|refine pickQ_neg (by first|assumption|omega) ?_|refine pickQn_pos (by first|assumption|omega) ?_|refine pickQn_neg (by first|assumption|omega) ?_) | ((with_reducible refine oQ_one ?_ ?_); exact ⟨_, rfl⟩) | (with_reducible first|refine And.intro (Eq.refl (α := World) _) ?_|refine forall_one ?_|refine oQ_nil ?_) | (with_reducible refine oQ_of ⟨_, rfl⟩ (fun W0 hW0 => by (refine oM_gen (fun Kv hK => ?_)); simp [go_sem]; (first | exact hK _ _ ⟨rfl, rfl⟩ | exact ⟨by omega, hK _ _ ⟨rfl, rfl⟩⟩)) ?_)
      | (with_reducible first|refine gdtT ?_|refine gdtF ?_|refine gdfF ?_|refine gdfT ?_|refine gdu ?_ _|refine gdt_pos (by first|assumption|omega) ?_|refine gdt_neg (by first|assumption|omega) ?_|refine gdt_split (fun hg => ?_) (fun hg => ?_)|refine gdf_pos (by first|assumption|omega) ?_|refine gdf_neg (by first|assumption|omega) ?_|refine gdf_split (fun hg => ?_) (fun hg => ?_)|refine gdtn_pos (by first|assumption|omega) ?_|refine gdtn_neg (by first|assumption|omega) ?_|refine gdtn_split (fun hg => ?_) (fun hg => ?_)|refine gdfn_pos (by first|assumption|omega) ?_|refine gdfn_neg (by first|assumption|omega) ?_|refine gdfn_split (fun hg => ?_) (fun hg => ?_)|refine gdtbn_pos (by assumption) ?_|refine gdtbn_neg (by assumption) ?_|refine gdfbn_pos (by assumption) ?_|refine gdfbn_neg (by assumption) ?_|refine gdtb_pos (by assumption) ?_|refine gdtb_neg (by assumption) ?_|refine gdtb_split (fun hg => ?_) (fun hg => ?_)|refine gdfb_pos (by assumption) ?_|refine gdfb_neg (by assumption) ?_|refine gdfb_split (fun hg => ?_) (fun hg => ?_)|refine pickT ?_|refine pickF ?_|refine pick_pos (by first|assumption|omega) ?_|refine pick_neg (by first|assumption|omega) ?_|refine pickn_pos (by first|assumption|omega) ?_|refine pickn_neg (by first|assumption|omega) ?_|refine pickbn_pos (by assumption) ?_|refine pickbn_neg (by assumption) ?_|refine pickb_pos (by assumption) ?_|refine pickb_neg (by assumption) ?_|refine condT ?_|refine condF ?_|refine cond_pos (by first|assumption|omega) ?_|refine cond_neg (by first|assumption|omega) ?_|refine condM_dec (fun hg => ?_) (fun hg => ?_)|refine condn_pos (by first|assumption|omega) ?_|refine condn_neg (by first|assumption|omega) ?_|refine condM_ndec (fun hg => ?_) (fun hg => ?_)|refine condbn_pos (by assumption) ?_|refine condbn_neg (by assumption) ?_|refine condbn_split (fun hg => ?_) (fun hg => ?_)|refine condb_pos (by assumption) ?_|refine condb_neg (by assumption) ?_|refine condM_b (fun hg => ?_) (fun hg => ?_))
      | ((with_reducible refine oM_gen (fun Kv hK => ?_)); simp [go_sem]; (try simp (disch := omega) only [wrapI64, wrapU8, wrapU32, wrapU64]); (first | refine hK _ _ ?_ | refine And.intro (by omega) (hK _ _ ?_)); clear hK; clear Kv)))
      refine quietM_one ?_
      rw [← hw2]
      repeat (any_goals (first
      | (with_reducible refine pureM_in ?_)
      | (with_reducible first|refine pureQ_in ?_|refine gdQ_conv (fun _ => ?_)|refine pickQT ?_|refine pickQF ?_|refine pickQ_pos (by first|assumption|omega) ?_|refine pickQ_neg (by first|assumption|omega) ?_|refine pickQn_pos (by first|assumption|omega) ?_|refine pickQn_neg (by first|assumption|omega) ?_) | ((with_reducible refine oQ_one ?_ ?_); exact ⟨_, rfl⟩) | (with_reducible first|refine And.intro (Eq.refl (α := World) _) ?_|refine forall_one ?_|refine oQ_nil ?_) | (with_reducible refine oQ_of ⟨_, rfl⟩ (fun W0 hW0 => by (refine oM_gen (fun Kv hK => ?_)); simp [go_sem]; (first | exact hK _ _ ⟨rfl, rfl⟩ | exact ⟨by omega, hK _ _ ⟨rfl, rfl⟩⟩)) ?_)
      | (rw [oM_indexAddr, d1, rM_ok]) | (rw [oM_indexAddr, e1, rM_ok])
      | (with_reducible first|refine gdtT ?_|refine gdtF ?_|refine gdfF ?_|refine gdfT ?_|refine gdu ?_ _|refine gdt_pos (by first|assumption|omega) ?_|refine gdt_neg (by first|assumption|omega) ?_|refine gdt_split (fun hg => ?_) (fun hg => ?_)|refine gdf_pos (by first|assumption|omega) ?_|refine gdf_neg (by first|assumption|omega) ?_|refine gdf_split (fun hg => ?_) (fun hg => ?_)|refine gdtn_pos (by first|assumption|omega) ?_|refine gdtn_neg (by first|assumption|omega) ?_|refine gdtn_split (fun hg => ?_) (fun hg => ?_)|refine gdfn_pos (by first|assumption|omega) ?_|refine gdfn_neg (by first|assumption|omega) ?_|refine gdfn_split (fun hg => ?_) (fun hg => ?_)|refine gdtbn_pos (by assumption) ?_|refine gdtbn_neg (by assumption) ?_|refine gdfbn_pos (by assumption) ?_|refine gdfbn_neg (by assumption) ?_|refine gdtb_pos (by assumption) ?_|refine gdtb_neg (by assumption) ?_|refine gdtb_split (fun hg => ?_) (fun hg => ?_)|refine gdfb_pos (by assumption) ?_|refine gdfb_neg (by assumption) ?_|refine gdfb_split (fun hg => ?_) (fun hg => ?_)|refine pickT ?_|refine pickF ?_|refine pick_pos (by first|assumption|omega) ?_|refine pick_neg (by first|assumption|omega) ?_|refine pickn_pos (by first|assumption|omega) ?_|refine pickn_neg (by first|assumption|omega) ?_|refine pickbn_pos (by assumption) ?_|refine pickbn_neg (by assumption) ?_|refine pickb_pos (by assumption) ?_|refine pickb_neg (by assumption) ?_|refine condT ?_|refine condF ?_|refine cond_pos (by first|assumption|omega) ?_|refine cond_neg (by first|assumption|omega) ?_|refine condM_dec (fun hg => ?_) (fun hg => ?_)|refine condn_pos (by first|assumption|omega) ?_|refine condn_neg (by first|assumption|omega) ?_|refine condM_ndec (fun hg => ?_) (fun hg => ?_)|refine condbn_pos (by assumption) ?_|refine condbn_neg (by assumption) ?_|refine condbn_split (fun hg => ?_) (fun hg => ?_)|refine condb_pos (by assumption) ?_|refine condb_neg (by assumption) ?_|refine condM_b (fun hg => ?_) (fun hg => ?_))
      | ((with_reducible refine oM_gen (fun Kv hK => ?_)); simp [go_sem, h0, g0]; (try simp (disch := omega) only [wrapI64, wrapU8, wrapU32, wrapU64]); (first | refine hK _ _ ?_ | refine And.intro (by omega) (hK _ _ ?_)); clear hK; clear Kv)))
      all_goals first
        | (refine kno _ hb2 (fun e => ?_)
           have e3 := congrArg (fun l => l[j]?) e
           simp only [List.getElem?_eq_getElem hlt, List.getElem?_eq_getElem hltm, Option.some.injEq] at e3
           exact hg e3)
        | (refine ⟨⟨j + 1, rfl, hlt, hb2, ?_⟩, by simp; omega⟩
           rw [List.take_add_one, List.take_add_one, List.getElem?_eq_getElem hlt, List.getElem?_eq_getElem hltm, hpre]
           congr 2; rw [hg])
    · obtain rfl : j = xs.length := by omega
      rw [List.take_length, hlm, List.take_length] at hpre
      repeat (any_goals (first
      | (with_reducible refine pureM_in ?_)
      | (with_reducible first|refine pureQ_in ?_|refine gdQ_conv (fun _ => ?_)|refine pickQT ?_|refine pickQF ?_|refine pickQ_pos (by first|assumption|omega) ?_|refine pickQ_neg (by first|assumption|omega) ?_|refine pickQn_pos (by first|assumption|omega) ?_|refine pickQn_neg (by first|assumption|omega) ?_) | ((with_reducible refine oQ_one ?_ ?_); exact ⟨_, rfl⟩) | (with_reducible first|refine And.intro (Eq.refl (α := World) _) ?_|refine forall_one ?_|refine oQ_nil ?_) | (with_reducible refine oQ_of ⟨_, rfl⟩ (fun W0 hW0 => by (refine oM_gen (fun Kv hK => ?_)); simp [go_sem]; (first | exact hK _ _ ⟨rfl, rfl⟩ | exact ⟨by omega, hK _ _ ⟨rfl, rfl⟩⟩)) ?_)
      | (with_reducible first|refine gdtT ?_|refine gdtF ?_|refine gdfF ?_|refine gdfT ?_|refine gdu ?_ _|refine gdt_pos (by first|assumption|omega) ?_|refine gdt_neg (by first|assumption|omega) ?_|refine gdt_split (fun hg => ?_) (fun hg => ?_)|refine gdf_pos (by first|assumption|omega) ?_|refine gdf_neg (by first|assumption|omega) ?_|refine gdf_split (fun hg => ?_) (fun hg => ?_)|refine gdtn_pos (by first|assumption|omega) ?_|refine gdtn_neg (by first|assumption|omega) ?_|refine gdtn_split (fun hg => ?_) (fun hg => ?_)|refine gdfn_pos (by first|assumption|omega) ?_|refine gdfn_neg (by first|assumption|omega) ?_|refine gdfn_split (fun hg => ?_) (fun hg => ?_)|refine gdtbn_pos (by assumption) ?_|refine gdtbn_neg (by assumption) ?_|refine gdfbn_pos (by assumption) ?_|refine gdfbn_neg (by assumption) ?_|refine gdtb_pos (by assumption) ?_|refine gdtb_neg (by assumption) ?_|refine gdtb_split (fun hg => ?_) (fun hg => ?_)|refine gdfb_pos (by assumption) ?_|refine gdfb_neg (by assumption) ?_|refine gdfb_split (fun hg => ?_) (fun hg => ?_)|refine pickT ?_|refine pickF ?_|refine pick_pos (by first|assumption|omega) ?_|refine pick_neg (by first|assumption|omega) ?_|refine pickn_pos (by first|assumption|omega) ?_|refine pickn_neg (by first|assumption|omega) ?_|refine pickbn_pos (by assumption) ?_|refine pickbn_neg (by assumption) ?_|refine pickb_pos (by assumption) ?_|refine pickb_neg (by assumption) ?_|refine condT ?_|refine condF ?_|refine cond_pos (by first|assumption|omega) ?_|refine cond_neg (by first|assumption|omega) ?_|refine condM_dec (fun hg => ?_) (fun hg => ?_)|refine condn_pos (by first|assumption|omega) ?_|refine condn_neg (by first|assumption|omega) ?_|refine condM_ndec (fun hg => ?_) (fun hg => ?_)|refine condbn_pos (by assumption) ?_|refine condbn_neg (by assumption) ?_|refine condbn_split (fun hg => ?_) (fun hg => ?_)|refine condb_pos (by assumption) ?_|refine condb_neg (by assumption) ?_|refine condM_b (fun hg => ?_) (fun hg => ?_))
      | ((with_reducible refine oM_gen (fun Kv hK => ?_)); simp [go_sem]; (try simp (disch := omega) only [wrapI64, wrapU8, wrapU32, wrapU64]); (first | refine hK _ _ ?_ | refine And.intro (by omega) (hK _ _ ?_)); clear hK; clear Kv)))
      exact K_eq (k w1 hb) (by rw [decide_eq_true hpre])
  · exact kno w (Below.refl _ _) (fun e => by have := congrArg List.length e; omega)
end Go.Proofs.Cd
namespace JnSpec
open CodeSpec DkSpec
def sA1 : Ab := (openJ newA 3).2.2
def sJ2 : Int × Ab × Jn := appendJ sA1 3 ⟨[], 0, false⟩ [97, 98]
def sJ3 : Int × Ab × Jn := appendJ sJ2.2.1 3 sJ2.2.2 []
def sA5 : Ab := (writeA sJ3.2.1 4 0 [50, 58, 97, 98, 44, 50, 57, 51, 59, 49, 58, 97, 44, 57, 56, 59]).2
def sJ6 : Option Jn × Int × Ab := openJ sA5 4
theorem sane1 : (openJ newA 3).1 = some ⟨[], 0, false⟩ ∧ (openJ newA 3).2.1 = 0 := by constructor <;> kernel_rfl
theorem sane2 : sJ2.1 = 0 := by kernel_rfl
theorem sane3 : sJ3.1 = 0 ∧ sJ3.2.2 = ⟨[[97, 98], []], 14, false⟩ := by constructor <;> kernel_rfl
theorem sane4 : readA sJ3.2.1 3 0 99 = ([50, 58, 97, 98, 44, 50, 57, 51, 59, 48, 58, 44, 48, 59], 0) := by kernel_rfl
theorem sane6 : sJ6.1 = some ⟨[[97, 98]], 9, false⟩ ∧ sJ6.2.1 = 0 ∧ (sJ6.2.2.F 4).1.length = 9 := by
  refine ⟨?_, ?_, ?_⟩ <;> kernel_rfl
theorem saneS : sumR [] = 0 ∧ sumR [97] = 97 ∧ sumR [97, 98] = 293 := by decide
end JnSpec
namespace Go.Proofs
open Go Go.Sh Go.RowKit CodeSpec JnSpec DkSpec
set_option linter.unusedSimpArgs false
set_option linter.unusedVariables false
set_option maxRecDepth 10000
section
variable {w : World} {K : Value → World → Prop}
@[go_sem] theorem nilD (T : TypeId) (a : Addr) : oM Tryd.prog (.binOp .eql 51 (.tmp 0) (.const (.pointer none)) 51) T [.pointer (some a)] K w = K (.bool false) w := by
  refine propext ⟨fun h => h, fun h => h⟩
@[go_sem] theorem nilJ (T : TypeId) (a : Addr) : oM Tryd.prog (.binOp .eql 53 (.tmp 0) (.const (.pointer none)) 53) T [.pointer (some a)] K w = K (.bool false) w := by
  refine propext ⟨fun h => h, fun h => h⟩
@[go_sem] theorem nilJn (T : TypeId) : oM Tryd.prog (.binOp .eql 53 (.tmp 0) (.const (.pointer none)) 53) T [.pointer none] K w = K (.bool true) w := by
  refine propext ⟨fun h => h, fun h => h⟩
end
section
variable {w w' w2 : World} {b p : Nat} {A A' : Ab} {h h' h2 : Dk} {f : Int} {j j' : Jn} {v v' v2 : Value} {K : Value → World → Prop}
theorem below_of_fr (g : Fr (fun _ => False) w w') : Below w.heap.size w w' := ⟨g.os, g.tape, g.output, g.size, fun i hi => g.block i hi (fun h => h)⟩
theorem below_of_step {B : Nat} (t : Step w b h w' h') (ho : ∀ i, Own b h i → B ≤ i) (hB : B ≤ w.heap.size) : Below B w w' := ⟨t.fr.os, t.fr.tape, t.fr.output, t.fr.size, fun i hi => t.fr.block i (by omega) (fun hx => by have := ho i hx; omega)⟩
theorem own_step {B : Nat} (t : Step w b h w' h') (ho : ∀ i, Own b h i → B ≤ i) (hB : B ≤ w.heap.size) : ∀ i, Own b h' i → B ≤ i := fun i hi => (t.own i hi).elim (ho i) (fun h => by omega)
theorem below_of_jst {B : Nat} (t : JSt w b h p v w' h' v') (ho : ∀ i, Own b h i → B ≤ i) (hj : ∀ i, JO p v i → B ≤ i) (hB : B ≤ w.heap.size) : Below B w w' := ⟨t.fr.os, t.fr.tape, t.fr.output, t.fr.size, fun i hi => t.fr.block i (by omega) (fun hx => hx.elim (fun hx => by have := ho i hx; omega) (fun hx => by have := hj i hx; omega))⟩
theorem newSys_ok (hl : Cd.Laid w) (k : ∀ w' b h, Sys w' b newA h → Below w.heap.size w w' → (∀ i, Own b h i → w.heap.size ≤ i) → K (dkP b) w') : callM Tryd.prog 48 #[] K w := by
  refine new_ok (fun w' b h d fr ho hr => k w' b h ⟨d, hl.below (below_of_fr fr) hl.size, fun i hi => Nat.le_trans hl.size (ho i hi)⟩ (below_of_fr fr) ho)
theorem sane_ok (hl : Cd.Laid w) (k : ∀ w', Below w.heap.size w w' → K (.bool true) w') : callM Tryd.prog 46 #[] K w := by
  apply sh_46_ok
  unfold sh_46
  refine newSys_ok hl (fun w1 b h1 s1 b1 o1 => ?_)
  repeat (any_goals (first
  | (with_reducible ((refine idCond ?_); refine yM ?_))
  | ((with_reducible refine idO ?_); (with_reducible refine oM_gen fun Kv hK=>?_); simp [go_sem]; refine hK _ _ ?_; clear hK; clear Kv)))
  refine openJ_ok s1 3 (fun w2 h2 r s2 t2 o2 => ?_)
  rw [sane1.1] at o2
  rw [sane1.2]
  obtain ⟨p, v, rfl, jn2, hj2⟩ := o2
  repeat (any_goals (first
  | (with_reducible ((refine idCond ?_); refine yM ?_))
  | ((with_reducible refine idO ?_); (with_reducible refine oM_gen fun Kv hK=>?_); simp [go_sem]; refine hK _ _ ?_; clear hK; clear Kv)))
  refine append_ok s2 jn2 (by omega) [97, 98] (by decide) (fun w3 h3 v3 s3 jn3 t3 => ?_)
  have t03 := (JSt.of_step t2).trans t3
  change Sys w3 b sJ2.2.1 h3 at s3
  change IsJn w3 b h3 p 3 sJ2.2.2 v3 at jn3
  refine append_ok s3 jn3 (by omega) [] (by decide) (fun w4 h4 v4 s4 jn4 t4 => ?_)
  change Sys w4 b sJ3.2.1 h4 at s4
  change IsJn w4 b h4 p 3 sJ3.2.2 v4 at jn4
  refine read_ok s4.d 3 0 99 ?_
  rw [sane4]
  repeat (any_goals ((with_reducible refine idO ?_); (with_reducible refine oM_gen fun Kv hK=>?_); simp [go_sem]; refine hK _ _ ?_; clear hK; clear Kv))
  refine Write_ok s4.d 4 0 [50, 58, 97, 98, 44, 50, 57, 51, 59, 49, 58, 97, 44, 57, 56, 59] (by decide) (by omega) (fun w5 h5 d5 t5 => ?_)
  have s5 := s4.step d5 t5
  have jn5 := jn4.step t5
  refine openJ_ok s5 4 (fun w6 h6 r s6 t6 o6 => ?_)
  change Opened w6 b h6 w5 4 r sJ6.1 at o6
  change Sys w6 b sJ6.2.2 h6 at s6
  have e62 : (openJ (writeA sJ3.2.1 4 0 [50, 58, 97, 98, 44, 50, 57, 51, 59, 49, 58, 97, 44, 57, 56, 59]).2 4).2.1 = 0 := sane6.2.1
  rw [sane6.1] at o6
  rw [e62]
  obtain ⟨q, u, rfl, jn6, hj6⟩ := o6
  have e21 : (appendJ (openJ newA 3).2.2 3 ⟨[], 0, false⟩ [97, 98]).1 = 0 := sane2
  have e31 : (appendJ sJ2.2.1 3 sJ2.2.2 []).1 = 0 := sane3.1
  rw [e21, e31]
  have jp6 := jn5.step t6
  rw [sane3.2] at jp6
  have t06 : JSt w2 b h2 p v w6 h6 v4 := t3.trans (t4.trans ((JSt.of_step t5).trans (JSt.of_step t6)))
  have bb2 : Below w.heap.size w1 w2 := below_of_step t2 o1 b1.size
  have ho2 := own_step t2 o1 b1.size
  have bb6 : Below w.heap.size w2 w6 := below_of_jst t06 ho2 (fun i hi => Nat.le_trans b1.size (hj2 i hi)) (Nat.le_trans b1.size bb2.size)
  have bb := b1.trans (bb2.trans bb6)
  repeat (any_goals (first
  | (with_reducible ((refine idCond ?_); refine yM ?_))
  | ((with_reducible refine idO ?_); (with_reducible refine oM_gen fun Kv hK=>?_); simp [go_sem]; refine hK _ _ ?_; clear hK; clear Kv)))
  refine Sum_ok [] (by decide) ?_
  rw [saneS.1]
  repeat (any_goals (first
  | (with_reducible ((refine idGd ?_); refine zA ?_))
  | ((with_reducible refine idO ?_); (with_reducible refine oM_gen fun Kv hK=>?_); simp [go_sem]; refine hK _ _ ?_; clear hK; clear Kv)))
  refine Sum_ok [97] (by decide) ?_
  rw [saneS.2.1]
  repeat (any_goals (first
  | (with_reducible first|((refine idGd ?_); refine zA ?_)|((refine idPick ?_); refine yB ?_))
  | ((with_reducible refine idO ?_); (with_reducible refine oM_gen fun Kv hK=>?_); simp [go_sem]; refine hK _ _ ?_; clear hK; clear Kv)))
  refine Sum_ok [97, 98] (by decide) ?_
  rw [saneS.2.2]
  repeat (any_goals (first
  | (with_reducible first|refine pureM_in ?_|((refine idGd ?_); refine zA ?_)|((refine idPick ?_); refine yB ?_))
  | ((with_reducible refine idO ?_); (with_reducible refine oM_gen fun Kv hK=>?_); simp [go_sem]; refine hK _ _ ?_; clear hK; clear Kv)))
  refine len_ok jp6 ?_
  repeat (any_goals (first
  | (with_reducible first|refine pureM_in ?_|((refine idGd ?_); refine zA ?_)|((refine idPick ?_); refine yB ?_))
  | ((with_reducible refine idO ?_); (with_reducible refine oM_gen fun Kv hK=>?_); simp [go_sem]; refine hK _ _ ?_; clear hK; clear Kv)))
  refine get_ok jp6 0 ?_
  repeat (any_goals (first
  | (with_reducible first|refine pureM_in ?_|((refine idGd ?_); refine zA ?_)|((refine idPick ?_); refine yB ?_))
  | ((with_reducible refine idO ?_); (with_reducible refine oM_gen fun Kv hK=>?_); simp [go_sem]; refine hK _ _ ?_; clear hK; clear Kv)))
  refine all_ok jn6 (fun av w7 ho7 b7 => ?_)
  repeat (any_goals (first
  | (with_reducible ((refine idGd ?_); refine zA ?_))
  | ((with_reducible refine idO ?_); (with_reducible refine oM_gen fun Kv hK=>?_); simp [go_sem]; refine hK _ _ ?_; clear hK; clear Kv)))
  have hb8 : Below w7.heap.size w7 (w7.alloc (.cells #[.string ⟨#[97, 98]⟩] 9)) := (Below.refl _ _).alloc (Nat.le_refl _) _
  have hn8 := heap_alloc_new w7 (.cells #[.string ⟨#[97, 98]⟩] 9)
  have hlt8 : w7.heap.size < (w7.alloc (.cells #[.string ⟨#[97, 98]⟩] 9)).heap.size := by rw [alloc_size]; omega
  generalize w7.alloc (.cells #[.string ⟨#[97, 98]⟩] 9) = w8 at *
  have r7 : Cd.RowOf Cd.strV w8 av [[97, 98]] := (Cd.RowOf.of_owns ho7).below hb8
  have r8 : Cd.RowOf Cd.strV w8 (.slice (some ⟨w7.heap.size, 0, none⟩) 1 1) [[97, 98]] := ⟨_, 1, rfl, .inr ⟨_, 0, rfl, hlt8, fun i hi => by
    rw [cell_of_block hn8]
    match i, hi with
    | 0, _ => rfl⟩⟩
  refine Cd.sameTexts_ok _ _ _ _ r7 r8 (by decide) (by decide) (fun w9 b9 => ?_)
  simp only [decide_true]
  have s9 := ((s6.below b7).below hb8).below b9
  repeat (any_goals (with_reducible first|refine pureM_in ?_|((refine idGd ?_); refine zA ?_)|((refine idPick ?_); refine yB ?_)))
  refine size_ok s9.d 4 ?_
  have e63 : (sJ6.2.2.F 4).1.length = 9 := sane6.2.2
  rw [e63]
  repeat (any_goals (first
  | (with_reducible first|((refine idGd ?_); refine zA ?_)|((refine idPick ?_); refine yB ?_))
  | ((with_reducible refine idO ?_); (with_reducible refine oM_gen fun Kv hK=>?_); simp [go_sem]; refine hK _ _ ?_; clear hK; clear Kv)))
  refine k _ ?_
  have z1 := b1.size
  have z2 := bb2.size
  have z6 := bb6.size
  have z7 := b7.size
  have z8 := hb8.size
  exact bb.trans ((b7.mono (by omega)).trans ((hb8.mono (by omega)).trans (b9.mono (by omega))))
end
end Go.Proofs
namespace Go.Proofs
open Go Go.Sh Go.RowKit CodeSpec JnSpec DkSpec
set_option linter.unusedSimpArgs false
set_option linter.unusedVariables false
set_option maxRecDepth 10000
attribute [local go_sem] oM_indexAddr
section
variable {w w' w2 : World} {b p : Nat} {A A' : Ab} {h h' h2 : Dk} {f : Int} {j j' : Jn} {v v' v2 : Value} {K : Value → World → Prop}
def Longs (l : List Bs) : Prop := l.length ≤ 8 ∧ ∀ t ∈ l, t.length ≤ 20000
end
end Go.Proofs
namespace JnSpec
open CodeSpec DkSpec
structure Upp (A : Ab) : Prop where
  down : A.down = false
  armed : A.armed = 0
  lost : A.lost = 0
variable {all sure : List Bs} {f : Int} {A : Ab} {j : Jn}
theorem Upp.ends (u : Upp A) : endsA A = (false, A) := by unfold endsA; rw [if_pos (.inr u.armed)]
theorem Upp.comes (u : Upp A) : comesA A = A := by unfold comesA; rw [u.ends]; simp
theorem Upp.settle (u : Upp A) (s : Bs) : Upp (settleA A f s) := ⟨u.down, u.armed, u.lost⟩
theorem Upp.add (u : Upp A) (n : Nat) (s : Bs) : Upp (addA A f n s) := by
  unfold addA
  split
  · exact u
  · exact ⟨u.down, u.armed, u.lost⟩
theorem Upp.sync (u : Upp A) (hf : 0 ≤ f ∧ f ≤ 15) : syncA A f = (0, settleA A f (A.F f).1) := by
  unfold syncA
  rw [u.comes, mayA_up u.down (by omega), if_neg (by simp), if_neg (by have := u.lost; omega)]
theorem Upp.write (u : Upp A) (hf : 0 ≤ f ∧ f ≤ 15) {n : Nat} {s : Bs} (hb : n + s.length ≤ 16777216) : writeA A f n s = (0, addA A f n s) := by
  unfold writeA
  rw [u.ends]
  simp only [Bool.false_eq_true, if_false]
  unfold wrA
  rw [mayA_up u.down (by omega), if_neg (by simp), if_neg (by omega), if_neg (by omega)]
  simp
theorem Upp.openJ (u : Upp A) (hf : 0 ≤ f ∧ f ≤ 15) : ∃ B, JnSpec.openJ A f = (some ⟨(readJ (A.F f).1).1, (readJ (A.F f).1).2, false⟩, 0, B) ∧ Upp B ∧ (B.F f).1 = (A.F f).1.take (readJ (A.F f).1).2 ∧ ∀ g, g ≠ f → (B.F g) = A.F g := by
  have u2 : Upp (settleA A f (A.F f).1) := u.settle _
  have e1 : (settleA A f (A.F f).1).F f = ((A.F f).1, (A.F f).1) := setF_same _ _ _
  have e2 : ∀ g, g ≠ f → (settleA A f (A.F f).1).F g = A.F g := fun g hg => by show setF A.F f _ g = _; simp [setF, hg]
  have hle : (readJ (A.F f).1).2 ≤ (A.F f).1.length := by
    have h := readJ_spec (A.F f).1
    have h1 := congrArg List.length h.2.2.1
    rw [List.length_append, ← h.2.1] at h1
    omega
  unfold JnSpec.openJ
  rw [if_neg (by omega), u.sync hf, if_neg (by simp)]
  dsimp only
  rw [read_all u2.down hf, e1]
  generalize settleA A f (A.F f).1 = B at *
  generalize hx : (A.F f).1 = x at *
  unfold openB
  rw [if_neg (by simp)]
  dsimp only
  by_cases hlt : (readJ x).2 < x.length
  · rw [if_pos hlt]
    have ht : truncA B f (readJ x).2 = (0, settleA B f (x.take (readJ x).2)) := by
      unfold truncA
      rw [u2.comes, mayA_up u2.down (by omega), if_neg (by simp), if_neg (by rw [e1]; dsimp only; omega), e1]
      simp
    rw [ht, if_neg (by simp)]
    refine ⟨_, rfl, u2.settle _, ?_, fun g hg => ?_⟩
    · show (setF B.F f _ f).1 = _
      rw [setF_same]
    · show setF B.F f _ g = _
      rw [← e2 g hg]
      simp [setF, hg]
  · rw [if_neg hlt]
    refine ⟨B, rfl, u2, ?_, e2⟩
    rw [e1, List.take_of_length_le (by omega)]
theorem Upp.append (u : Upp A) (hf : 0 ≤ f ∧ f ≤ 15) {t : Bs} (hj : j.broken = false) (hx : (A.F f).1.length = j.bytes) (ht : t.length ≤ 20000) (hb : j.bytes + (form t).length ≤ 1048576) :
    ∃ B, appendJ A f j t = (0, B, ⟨j.recs ++ [t], j.bytes + (form t).length, false⟩) ∧ Upp B ∧ (B.F f).1 = (A.F f).1 ++ form t ∧ ∀ g, g ≠ f → (B.F g) = A.F g := by
  have hne : form t ≠ [] := List.length_pos_iff.1 (form_pos t)
  refine ⟨addA A f j.bytes (form t), ?_, u.add _ _, ?_, fun g hg => ?_⟩
  · unfold appendJ
    rw [if_neg (by rw [hj]; simp), if_neg (by omega), if_neg (by omega), u.write hf (by omega), if_neg (by simp)]
  · unfold addA
    rw [if_neg hne]
    show (setF A.F f _ f).1 = _
    rw [setF_same, ← hx, putB_end _ _ hne]
  · unfold addA
    rw [if_neg hne]
    show setF A.F f _ g = _
    simp [setF, hg]
theorem formL_bound {l : List Bs} (h : ∀ t ∈ l, t.length ≤ 20000) : (formL l).length ≤ l.length * 20064 := by
  induction l with
  | nil => simp [formL]
  | cons t l ih =>
    have h1 := ih (fun x hx => h x (by simp [hx]))
    have h2 := h t (by simp)
    have h3 := form_len (s := t) (by omega)
    rw [formL_cons, List.length_append, List.length_cons]
    omega
end JnSpec
namespace Go.Proofs
open Go Go.Sh Go.RowKit CodeSpec JnSpec DkSpec
set_option linter.unusedSimpArgs false
set_option linter.unusedVariables false
set_option maxRecDepth 10000
attribute [local go_sem] oM_indexAddr
def endsL (l : List Bs) (i : Nat) : List Int := (List.range i).map (fun k => ((formL (l.take (k + 1))).length : Int))
structure TJ (w0 W : World) (b p : Nat) (l : List Bs) (i : Nat) (A : Ab) (h : Dk) (v ev : Value) : Prop where
  s : Sys W b A h
  jn : IsJn W b h p 0 ⟨l.take i, (formL (l.take i)).length, false⟩ v
  u : Upp A
  x : (A.F 0).1 = formL (l.take i)
  y : (A.F 1).1 = []
  e : W.ownsRow 0 3 1 ev i ((endsL l i).map Cd.intV)
  sep : ∀ k, ev.ownBlock = some k → ¬ Own b h k ∧ ¬ Rdb h k ∧ ¬ JO p v k
  bl : Below w0.heap.size w0 W
  new : ∀ k, Own b h k ∨ JO p v k ∨ ev.ownBlock = some k → w0.heap.size ≤ k
section
variable {w0 w w' w2 : World} {b p i : Nat} {A A' : Ab} {h h' h2 : Dk} {f : Int} {l : List Bs} {j j' : Jn} {v v' v2 ev : Value} {K : Value → World → Prop}
theorem TJ.append (t : TJ w0 w b p l i A h v ev) (hL : Longs l) (hi : i < l.length) (h6 : 6 ≤ w0.heap.size) (k : ∀ w' A' h' v', Sys w' b A' h' → IsJn w' b h' p 0 ⟨l.take (i + 1), (formL (l.take (i + 1))).length, false⟩ v' → Upp A' → (A'.F 0).1 = formL (l.take (i + 1)) → (A'.F 1).1 = [] →
    w'.ownsRow 0 3 1 ev i ((endsL l i).map Cd.intV) → (∀ k, ev.ownBlock = some k → ¬ Own b h' k ∧ ¬ Rdb h' k ∧ ¬ JO p v' k) → Below w0.heap.size w0 w' → (∀ k, Own b h' k ∨ JO p v' k ∨ ev.ownBlock = some k → w0.heap.size ≤ k) → K (.int .i64 0) w') : callM Tryd.prog 50 #[jnP p, .string ⟨l[i].toArray⟩] K w := by
  have ht := hL.2 l[i] (List.getElem_mem hi)
  have hb : (formL (l.take (i + 1))).length ≤ 1048576 := by
    have h1 := formL_bound (l := l.take (i + 1)) (fun x hx => hL.2 x (List.mem_of_mem_take hx))
    have h2 := hL.1
    have h3 : (l.take (i + 1)).length ≤ 8 := by simp; omega
    have h4 : (l.take (i + 1)).length * 20064 ≤ 8 * 20064 := Nat.mul_le_mul_right _ h3
    omega
  have hsn : l.take (i + 1) = l.take i ++ [l[i]] := List.take_succ_eq_append_getElem hi
  have hfs : formL (l.take (i + 1)) = formL (l.take i) ++ form l[i] := by rw [hsn, formL_append]; simp [formL]
  have hfl := congrArg List.length hfs
  rw [List.length_append] at hfl
  obtain ⟨B, ha, hu, hx, hy⟩ := t.u.append (f := 0) (by omega) (j := ⟨l.take i, (formL (l.take i)).length, false⟩) rfl (by rw [t.x]) ht (by dsimp only; omega)
  refine append_ok t.s t.jn (by omega) l[i] (by omega) (fun w' h' v' s' jn' t' => ?_)
  rw [ha] at s' jn' ⊢
  dsimp only at s' jn' ⊢
  rw [← hsn, ← hfl] at jn'
  have hz := t'.fr.size
  have hel : ∀ k, ev.ownBlock = some k → k < w.heap.size := fun k hk => (owns_own t.e hk).1
  refine k w' B h' v' s' jn' hu (by rw [hx, t.x, hfs]) (by rw [hy 1 (by decide), t.y]) ?_ ?_ ?_ ?_
  · refine owns_keep t.e (fun k hk => t'.fr.block k (hel k hk) (fun ho => ?_))
    have := t.sep k hk
    exact ho.elim this.1 this.2.2
  · intro k hk
    have h1 := t.sep k hk
    have h2 := hel k hk
    exact ⟨fun ho => (t'.own k ho).elim h1.1 (fun h => by omega), fun ho => (t'.rd k ho).elim h1.2.1 (fun h => by omega), fun ho => (t'.jo k ho).elim h1.2.2 (fun h => by omega)⟩
  · exact t.bl.trans (below_of_jst t' (fun k hk => t.new k (.inl hk)) (fun k hk => t.new k (.inr (.inl hk))) t.bl.size)
  · have hz0 := t.bl.size
    rintro k (hk | hk | hk)
    · exact (t'.own k hk).elim (fun h => t.new k (.inl h)) (fun h => by omega)
    · exact (t'.jo k hk).elim (fun h => t.new k (.inr (.inl h))) (fun h => by omega)
    · exact t.new k (.inr (.inr hk))
end
end Go.Proofs
namespace Go.Proofs
open Go Go.Sh Go.RowKit CodeSpec JnSpec DkSpec
set_option linter.unusedSimpArgs false
set_option linter.unusedVariables false
set_option maxRecDepth 10000
attribute [local go_sem] oM_indexAddr
section
variable {w0 w w' w2 : World} {b p i : Nat} {A A' : Ab} {h h' h2 : Dk} {f : Int} {l : List Bs} {j j' : Jn} {v v' v2 ev : Value} {K : Value → World → Prop}
end
end Go.Proofs
namespace Go.Proofs
open Go Go.Sh Go.RowKit CodeSpec JnSpec DkSpec
set_option linter.unusedSimpArgs false
set_option linter.unusedVariables false
set_option maxRecDepth 10000
section
variable {w w' : World} {v : Value} {l : List UInt8}
theorem BufM.at_ (h : BufM w 5 v l) {i : Nat} (hi : i < l.length) : ∃ g c, v = .slice (some ⟨g, 0, none⟩) l.length c ∧ w.cell? ⟨g, i, none⟩ = some (.int .u8 (l[i].toNat : Int)) ∧ w.frozen? ⟨g, i, none⟩ = false ∧
    (∀ W, (Instr.indexAt 61 (.slice (some ⟨g, 0, none⟩) l.length c) (.int .i64 i)).run Tryd.prog W = .ok (.pointer (some ⟨g, i, none⟩)) W) ∧ BufM (w.setCell ⟨g, i, none⟩ (.int .u8 0)) 5 v (l.set i 0) := by
  obtain ⟨g, cap, cur, fz, rfl, hg, hf, hc, hlc, hcell⟩ := h
  refine ⟨g, cap, rfl, ?_, ?_, fun W => ?_, ⟨g, cap, cur.setIfInBounds i (.int .u8 0), fz, by simp, block_set hg _, by simpa using hf, by simpa using hc, by simpa using hlc, fun j hj => ?_⟩⟩
  · rw [cell_of_block hg]; exact hcell i hi
  · have := hf i (by omega)
    simp [World.frozen?, hg]
    omega
  · rw [run_indexAt_slice (h := by kernel_rfl), if_pos (by omega)]
    have hs : (sizeOf (Tryd.prog.elem 61)).run Tryd.prog W = .ok 1 W := by kernel_rfl
    rw [hs]
    simp only [Result.andThen, Int.toNat_natCast, add_none, Nat.zero_add, Nat.mul_one]
  · have hj' : j < l.length := by simpa using hj
    rw [List.getElem_set]
    by_cases e : i = j
    · subst e
      have : i < cur.size := by omega
      simp [this]
    · rw [if_neg e, Array.getElem?_setIfInBounds_ne e]
      exact hcell j hj'
theorem BufM.take (h : BufM w 5 v l) (n : Nat) (hn : n ≤ l.length) : ∃ g c, v = .slice (some ⟨g, 0, none⟩) l.length c ∧ l.length ≤ c ∧ BufM w 5 (.slice (some ⟨g, 0, none⟩) n c) (l.take n) := by
  obtain ⟨g, cap, cur, fz, rfl, hg, hf, hc, hlc, hcell⟩ := h
  refine ⟨g, cap, rfl, hlc, ⟨g, cap, cur, fz, by simp; omega, hg, hf, hc, by simp; omega, fun j hj => ?_⟩⟩
  have hj' : j < l.length := by simp at hj; omega
  rw [List.getElem_take]
  exact hcell j hj'
end
end Go.Proofs
set_option linter.unusedVariables false
set_option maxRecDepth 100000
namespace Go.Proofs
open Go Go.Sh
end Go.Proofs
namespace Go.Proofs
open Go Go.Sh Go.RowKit CodeSpec JnSpec DkSpec
set_option linter.unusedSimpArgs false
set_option linter.unusedVariables false
set_option maxRecDepth 10000
attribute [local go_sem] oM_indexAddr
theorem Same.cell {w W : World} (h : Same w W) (a : Addr) : W.cell? a = w.cell? a := cell_heap h.1 a
section
variable {w w' w2 : World} {b : Nat} {A : Ab} {h : Dk} {K : Value → World → Prop}
theorem slTo {w : World} {K : Value → World → Prop} {T : TypeId} {a : Option Addr} {n c : Nat} (i : Nat) (hi : i ≤ c) : oM Tryd.prog (.slice 23 (.tmp 0) none (some (.tmp 1)) none) T [.slice a n c, .int .i64 i] K w = K (.slice a i c) w := by
  rw [oM_sliceTo, run_sliceAt_slice w 23 _ _ _ _ (by kernel_rfl), run_slice_h w 23 _ n c (by kernel_rfl) .i64 i (by omega) (by omega)]
  have hs : (sizeOf (Tryd.prog.elem 23)).run Tryd.prog w = .ok 1 w := by kernel_rfl
  rw [hs]
  have e : a.map (fun x => x.add (0 * 1)) = a := by
    cases a with
    | none => rfl
    | some a => simp [Addr.add]
  simp only [Result.andThen_ok, sliced, Int.toNat_natCast, Nat.sub_zero, e, ite_self]
  rfl
end
end Go.Proofs
namespace Go.Proofs
open Go Go.Sh Go.RowKit CodeSpec JnSpec DkSpec
set_option linter.unusedSimpArgs false
set_option linter.unusedVariables false
set_option maxRecDepth 10000
section
variable {w w' : World} {K : Value → World → Prop}
theorem disky_ok (e : Int) (k : K (.bool (decide (e = 8 ∨ e = 9))) w) : callM Tryd.prog 60 #[.int .i64 e] K w := by
  apply sh_60_ok
  unfold sh_60
  by_cases h8 : e = 8
  · repeat (any_goals (first
    | (with_reducible first|((refine idGd ?_); ((refine idGdD ?_); refine zJ ?_))|((refine idPick ?_); refine yD ?_))
    | ((with_reducible refine idO ?_); (with_reducible refine oM_gen fun Kv hK=>?_); simp [go_sem]; refine hK _ _ ?_; clear hK; clear Kv)))
    simpa [h8] using k
  · by_cases h9 : e = 9
    · repeat (any_goals (first
      | (with_reducible first|refine pureM_in ?_|((refine idGd ?_); ((refine idGdD ?_); refine zI ?_))|((refine idPick ?_); refine yE ?_))
      | ((with_reducible refine idO ?_); (with_reducible refine oM_gen fun Kv hK=>?_); simp [go_sem]; refine hK _ _ ?_; clear hK; clear Kv)))
      simpa [h9] using k
    · repeat (any_goals (first
      | (with_reducible first|refine pureM_in ?_|((refine idGd ?_); ((refine idGdD ?_); refine zI ?_))|((refine idPick ?_); refine yE ?_))
      | ((with_reducible refine idO ?_); (with_reducible refine oM_gen fun Kv hK=>?_); simp [go_sem]; refine hK _ _ ?_; clear hK; clear Kv)))
      simpa [h8, h9] using k
theorem begins_ok {x y : Value} {l m : List Bs} (hx : Cd.RowOf Cd.strV w x l) (hcap : ∀ a n c, x = .slice a n c → n ≤ c) (hy : Cd.RowOf Cd.strV w y m) (hl : l.length < 2^60) (hm : m.length < 2^60) (k : ∀ w', Below w.heap.size w w' → K (.bool (decide (m.length ≤ l.length ∧ l.take m.length = m))) w') : callM Tryd.prog 64 #[x, y] K w := by
  apply sh_64_ok
  unfold sh_64
  obtain ⟨ax, cx, rfl, hcx⟩ := hx
  obtain ⟨ay, cy, rfl, hcy⟩ := id hy
  have hc := hcap _ _ _ rfl
  by_cases hle : m.length ≤ l.length
  · have hmin : min (m.length : Int) (l.length : Int) = (m.length : Int) := by omega
    have hsl : ∀ (W : World) (K : Value → World → Prop) (T : TypeId), oM Tryd.prog (.slice 23 (.tmp 0) none (some (.tmp 1)) none) T [.slice ax l.length cx, .int .i64 (m.length : Nat)] K W = K (.slice ax m.length cx) W := fun W K T => slTo m.length (by omega)
    have rr : Cd.RowOf Cd.strV w (.slice ax m.length cx) (l.take m.length) := by
      have hml : (l.take m.length).length = m.length := by simp; omega
      refine ⟨ax, cx, by rw [hml], ?_⟩
      rcases hcx with hc | ⟨bx, ox, rfl, hbx, hc⟩
      · left; rw [hc]; simp
      · refine .inr ⟨bx, ox, rfl, hbx, fun i hi => ?_⟩
        rw [List.getElem_take]
        exact hc i (by omega)
    repeat (any_goals (first
    | (with_reducible first|refine pureM_in ?_|((refine idGd ?_); ((refine idGdD ?_); refine zF ?_)))
    | ((with_reducible refine idO ?_); (with_reducible refine oM_gen fun Kv hK=>?_); simp [go_sem, hmin, hsl]; refine hK _ _ ?_; clear hK; clear Kv)))
    refine Cd.sameTexts_ok _ _ _ _ rr hy (by simp; omega) (by omega) (fun w1 b1 => ?_)
    repeat (any_goals (with_reducible ((refine idPick ?_); refine yD ?_)))
    have := k w1 b1
    simpa [hle] using this
  · repeat (any_goals (first
    | (with_reducible first|((refine idGd ?_); ((refine idGdD ?_); refine zG ?_))|((refine idPick ?_); refine yE ?_))
    | ((with_reducible refine idO ?_); (with_reducible refine oM_gen fun Kv hK=>?_); simp [go_sem]; refine hK _ _ ?_; clear hK; clear Kv)))
    have := k w (Below.refl _ _)
    simpa [hle] using this
end
end Go.Proofs
set_option linter.unusedVariables false
set_option maxRecDepth 100000
namespace Go.Proofs
open Go Go.Sh
def held_9_46 (M_40 : List Value → World → Prop) (l_16 : List Value) (v12_22 : Value) (w : World) : Prop :=
 heldM w (fun C_46 w => (((true : Bool) = true) ∧ (pureH (l_16.getD 4 undef) C_46 (fun v79_47 =>
 oH Tryd.prog (.fieldAddr 67 (.tmp 0) 1) 0 [v12_22] C_46 (fun v81_48 =>
 oH Tryd.prog (.load 9 (.tmp 0)) 9 [v81_48] C_46 (fun v82_49 =>
 ∃ S_50 : World → World → Prop, ∃ R_51 : Value → World → Prop, (∀ v w w_1, S_50 w w_1 → R_51 v w → R_51 v w_1) ∧
 (∀ w, C_46 w → (oM Tryd.prog (.buildSlice 23 0 #[]) 23 [] (fun v w_1 => C_46 w_1 ∧ S_50 w w_1 ∧ R_51 v w_1) w)) ∧
 (∃ R_52 : Value → World → Prop, (∀ v w w_1, S_50 w w_1 → R_52 v w → R_52 v w_1) ∧
 (∀ w, C_46 w → ∀ v78_53, R_51 v78_53 w → (oM Tryd.prog (.call (Go.Call.mk (.builtin .append) #[(.tmp 0), (.tmp 1)] #[23, 23])) 23 [v78_53, v79_47] (fun v w_1 => C_46 w_1 ∧ S_50 w w_1 ∧ R_52 v w_1) w)) ∧
 (∃ R_54 : Value → World → Prop, (∀ v w w_1, S_50 w w_1 → R_54 v w → R_54 v w_1) ∧
 (∀ w, C_46 w → (oM Tryd.prog (.buildSlice 23 1 #[(0, (.tmp 0))]) 23 [v82_49] (fun v w_1 => C_46 w_1 ∧ S_50 w w_1 ∧ R_54 v w_1) w)) ∧
 (∀ w, C_46 w → ∀ v78_55, R_51 v78_55 w → ∀ v80_56, R_52 v80_56 w → ∀ v83_57, R_54 v83_57 w → (
 oM Tryd.prog (.call (Go.Call.mk (.builtin .append) #[(.tmp 0), (.tmp 1)] #[23, 23])) 23 [v80_56, v83_57] (fun v84_58 w =>
 M_40 [v84_58] w) w))))))))))
def pre_9_40 (l_16 : List Value) (v12_22 : Value) (v69_38 : Value) (M_40 : List Value → World → Prop) (w : World) : Prop :=
 oM Tryd.prog (.binOp .eql 54 (.tmp 0) (.const (.int .i64 0)) 54) 4 [v69_38] (fun v73_42 w =>
 gdM (gd v73_42 false) (pureM v69_38) (fun v75_43 w =>
 gdM (gd v73_42 false) (callM Tryd.prog 60 #[v75_43]) (fun v76_44 w =>
 oM Tryd.prog (.pick (.tmp 0) (.tmp 1) (.tmp 2)) 4 [v73_42, (.bool true), v76_44] (fun v77_45 w =>
 condM v77_45
 (held_9_46 M_40 l_16 v12_22 w)
 (M_40 [(l_16.getD 4 undef)] w)) w) w) w) w
def post_9_40 (K : Value → World → Prop) (M_19 : List Value → World → Prop) (l_16 : List Value) (v12_22 : Value) (v61_33 : Value) (v65_35 : Value) (v69_38 : Value) (v71_39 : Value) (l_41 : List Value) (w : World) : Prop :=
 oM Tryd.prog (.binOp .eql 54 (.tmp 0) (.const (.int .i64 0)) 54) 4 [v69_38] (fun v86_59 w =>
 gdM (gd v86_59 true) (pureM v71_39) (fun v88_60 w =>
 gdM (gd v86_59 true) (pureM v65_35) (fun v89_61 w =>
 gdM (gd v86_59 true) (oM Tryd.prog (.fieldAddr 67 (.tmp 0) 1) 0 [v12_22]) (fun v90_62 w =>
 gdM (gd v86_59 true) (oM Tryd.prog (.load 9 (.tmp 0)) 9 [v90_62]) (fun v91_63 w =>
 gdM (gd v86_59 true) (oM Tryd.prog (.buildSlice 23 1 #[(0, (.tmp 0))]) 23 [v91_63]) (fun v92_64 w =>
 gdM (gd v86_59 true) (oM Tryd.prog (.call (Go.Call.mk (.builtin .append) #[(.tmp 0), (.tmp 1)] #[23, 23])) 23 [v89_61, v92_64]) (fun v93_65 w =>
 gdM (gd v86_59 true) (callM Tryd.prog 40 #[v88_60, v93_65]) (fun v94_66 w =>
 gdM (gd v86_59 true) (oM Tryd.prog (.unOp .not 4 (.tmp 0)) 4 [v94_66]) (fun v95_67 w =>
 oM Tryd.prog (.pick (.tmp 0) (.tmp 1) (.tmp 2)) 4 [v86_59, v95_67, (.bool false)] (fun v96_68 w =>
 gdM (gd v96_68 false) (pureM v69_38) (fun v98_69 w =>
 gdM (gd v96_68 false) (oM Tryd.prog (.binOp .neq 54 (.tmp 0) (.const (.int .i64 0)) 54) 4 [v98_69]) (fun v99_70 w =>
 gdM (gd v96_68 false) (pureM v99_70) (fun v100_71 w =>
 gdM (gd v100_71 true) (pureM v71_39) (fun v101_72 w =>
 gdM (gd v100_71 true) (pureM v65_35) (fun v102_73 w =>
 gdM (gd v100_71 true) (callM Tryd.prog 40 #[v101_72, v102_73]) (fun v103_74 w =>
 gdM (gd v100_71 true) (oM Tryd.prog (.unOp .not 4 (.tmp 0)) 4 [v103_74]) (fun v104_75 w =>
 gdM (gd v96_68 false) (oM Tryd.prog (.pick (.tmp 0) (.tmp 1) (.tmp 2)) 4 [v100_71, v104_75, (.bool false)]) (fun v105_76 w =>
 oM Tryd.prog (.pick (.tmp 0) (.tmp 1) (.tmp 2)) 4 [v96_68, (.bool true), v105_76] (fun v106_77 w =>
 condM v106_77
 (K (.bool false) w)
 (M_19 [v61_33, v65_35, v69_38, v71_39, (l_41.getD 0 undef), (l_16.getD 5 undef), (l_16.getD 6 undef), (l_16.getD 7 undef), (l_16.getD 8 undef), (l_16.getD 9 undef), (l_16.getD 10 undef), (l_16.getD 11 undef), (l_16.getD 12 undef), (l_16.getD 13 undef)] w)) w) w) w) w) w) w) w) w) w) w) w) w) w) w) w) w) w) w) w
def pre_9_97 (v12_22 : Value) (v28_8 : Value) (M_97 : List Value → World → Prop) (w : World) : Prop :=
 oM Tryd.prog (.fieldAddr 67 (.tmp 0) 0) 0 [v12_22] (fun v133_99 w =>
 oM Tryd.prog (.load 3 (.tmp 0)) 3 [v133_99] (fun v134_100 w =>
 oM Tryd.prog (.binOp .eql 3 (.tmp 0) (.const (.int .i64 4)) 3) 4 [v134_100] (fun v135_101 w =>
 condM v135_101
 (oM Tryd.prog (.fieldAddr 67 (.tmp 0) 3) 0 [v12_22] (fun v137_102 w =>
 oM Tryd.prog (.load 22 (.tmp 0)) 22 [v137_102] (fun v138_103 w =>
 callM Tryd.prog 62 #[v28_8, v138_103] (fun v139_104 w =>
 M_97 [] w) w) w) w)
 (M_97 [] w)) w) w) w
def post_9_97 (K : Value → World → Prop) (M_19 : List Value → World → Prop) (a0 : Value) (l_16 : List Value) (l_94 : List Value) (v108_78 : Value) (v117_83 : Value) (v123_87 : Value) (v28_8 : Value) (v61_33 : Value) (l_98 : List Value) (w : World) : Prop :=
 callM Tryd.prog 63 #[v28_8] (fun v141_105 w =>
 callM Tryd.prog 49 #[v28_8, (.int .i64 3)] (fun v144_106 w =>
 oM Tryd.prog (.extract (.tmp 0) 0) 53 [v144_106] (fun v145_107 w =>
 oM Tryd.prog (.extract (.tmp 0) 1) 54 [v144_106] (fun v146_108 w =>
 oM Tryd.prog (.binOp .eql 53 (.tmp 0) (.const (.pointer none)) 53) 4 [v145_107] (fun v148_109 w =>
 condM v148_109
 (callM Tryd.prog 60 #[v146_108] (fun v150_110 w =>
 oM Tryd.prog (.unOp .not 4 (.tmp 0)) 4 [v150_110] (fun v151_111 w =>
 gdM (gd v151_111 false) (pureM (l_16.getD 14 undef)) (fun v153_112 w =>
 gdM (gd v151_111 false) (pureM a0) (fun v154_113 w =>
 gdM (gd v151_111 false) (oM Tryd.prog (.call (Go.Call.mk (.builtin .len) #[(.tmp 0)] #[64])) 3 [v154_113]) (fun v155_114 w =>
 gdM (gd v151_111 false) (oM Tryd.prog (.binOp .eql 3 (.tmp 0) (.tmp 1) 3) 4 [v153_112, v155_114]) (fun v156_115 w =>
 oM Tryd.prog (.pick (.tmp 0) (.tmp 1) (.tmp 2)) 4 [v151_111, (.bool true), v156_115] (fun v157_116 w =>
 condM v157_116
 (K (.bool false) w)
 (M_19 [v61_33, (l_16.getD 1 undef), (l_16.getD 2 undef), (l_16.getD 3 undef), (l_16.getD 4 undef), (l_16.getD 5 undef), v108_78, (l_16.getD 7 undef), v117_83, v123_87, (l_94.getD 0 undef), v146_108, v145_107, (l_16.getD 13 undef)] w)) w) w) w) w) w) w) w)
 (callM Tryd.prog 54 #[v145_107] (fun v159_117 w =>
 oM Tryd.prog (.binOp .neq 54 (.tmp 0) (.const (.int .i64 0)) 54) 4 [v146_108] (fun v161_118 w =>
 gdM (gd v161_118 false) (pureM (l_16.getD 4 undef)) (fun v163_119 w =>
 gdM (gd v161_118 false) (pureM v159_117) (fun v164_120 w =>
 gdM (gd v161_118 false) (callM Tryd.prog 64 #[v163_119, v164_120]) (fun v165_121 w =>
 gdM (gd v161_118 false) (oM Tryd.prog (.unOp .not 4 (.tmp 0)) 4 [v165_121]) (fun v166_122 w =>
 oM Tryd.prog (.pick (.tmp 0) (.tmp 1) (.tmp 2)) 4 [v161_118, (.bool true), v166_122] (fun v167_123 w =>
 gdM (gd v167_123 false) (pureM v159_117) (fun v169_124 w =>
 gdM (gd v167_123 false) (pureM (l_16.getD 7 undef)) (fun v170_125 w =>
 gdM (gd v167_123 false) (callM Tryd.prog 64 #[v169_124, v170_125]) (fun v171_126 w =>
 gdM (gd v167_123 false) (oM Tryd.prog (.unOp .not 4 (.tmp 0)) 4 [v171_126]) (fun v172_127 w =>
 oM Tryd.prog (.pick (.tmp 0) (.tmp 1) (.tmp 2)) 4 [v167_123, (.bool true), v172_127] (fun v173_128 w =>
 condM v173_128
 (K (.bool false) w)
 (M_19 [v61_33, (l_16.getD 1 undef), (l_16.getD 2 undef), (l_16.getD 3 undef), v159_117, (l_16.getD 5 undef), v108_78, v159_117, v117_83, v123_87, (l_94.getD 0 undef), v146_108, v145_107, v159_117] w)) w) w) w) w) w) w) w) w) w) w) w) w)) w) w) w) w) w
def post_9_93 (K : Value → World → Prop) (M_19 : List Value → World → Prop) (a0 : Value) (l_16 : List Value) (v108_78 : Value) (v117_83 : Value) (v123_87 : Value) (v12_22 : Value) (v28_8 : Value) (v61_33 : Value) (l_94 : List Value) (w : World) : Prop :=
 condM (l_94.getD 0 undef)
 (joinM (fun M_97 => (pre_9_97 v12_22 v28_8 M_97 w))
 (fun l_98 u_l_98 w => (post_9_97 K M_19 a0 l_16 l_94 v108_78 v117_83 v123_87 v28_8 v61_33 l_98 w)))
 (M_19 [v61_33, (l_16.getD 1 undef), (l_16.getD 2 undef), (l_16.getD 3 undef), (l_16.getD 4 undef), (l_16.getD 5 undef), v108_78, (l_16.getD 7 undef), v117_83, v123_87, (l_94.getD 0 undef), (l_16.getD 11 undef), (l_16.getD 12 undef), (l_16.getD 13 undef)] w)
def pre_9_23 (a0 : Value) (l_16 : List Value) (v12_22 : Value) (v28_8 : Value) (M_23 : List Value → World → Prop) (w : World) : Prop :=
 oM Tryd.prog (.call (Go.Call.mk (.builtin .len) #[(.tmp 0)] #[64])) 3 [a0] (fun v48_25 w =>
 oM Tryd.prog (.binOp .lss 3 (.tmp 0) (.tmp 1) 3) 4 [(l_16.getD 14 undef), v48_25] (fun v49_26 w =>
 condM v49_26
 (oM Tryd.prog (.indexAddr 64 (.tmp 0) (.tmp 1)) 0 [a0, (l_16.getD 14 undef)] (fun v52_27 w =>
 oM Tryd.prog (.load 67 (.tmp 0)) 67 [v52_27] (fun v53_28 w =>
 oM Tryd.prog (.store 67 (.tmp 0) (.tmp 1)) 0 [v12_22, v53_28] (fun _ w =>
 M_23 [] w) w) w) w)
 (callM Tryd.prog 58 #[v28_8, (.int .i64 0)] (fun v55_29 w =>
 callM Tryd.prog 59 #[v28_8, (.int .i64 0), (.slice none 0 0)] (fun v57_30 w =>
 M_23 [] w) w) w)) w) w
def post_9_23 (K : Value → World → Prop) (M_19 : List Value → World → Prop) (a0 : Value) (l_16 : List Value) (v12_22 : Value) (v28_8 : Value) (l_24 : List Value) (w : World) : Prop :=
 oM Tryd.prog (.fieldAddr 67 (.tmp 0) 0) 0 [v12_22] (fun v58_31 w =>
 oM Tryd.prog (.load 3 (.tmp 0)) 3 [v58_31] (fun v59_32 w =>
 oM Tryd.prog (.binOp .eql 3 (.tmp 0) (.const (.int .i64 0)) 3) 4 [v59_32] (fun v61_33 w =>
 condM v61_33
 (oM Tryd.prog (.binOp .eql 53 (.tmp 0) (.const (.pointer none)) 53) 4 [(l_16.getD 12 undef)] (fun v63_34 w =>
 condM v63_34
 (M_19 [v61_33, (l_16.getD 1 undef), (l_16.getD 2 undef), (l_16.getD 3 undef), (l_16.getD 4 undef), (l_16.getD 5 undef), (l_16.getD 6 undef), (l_16.getD 7 undef), (l_16.getD 8 undef), (l_16.getD 9 undef), (l_16.getD 10 undef), (l_16.getD 11 undef), (l_16.getD 12 undef), (l_16.getD 13 undef)] w)
 (callM Tryd.prog 54 #[(l_16.getD 12 undef)] (fun v65_35 w =>
 oM Tryd.prog (.fieldAddr 67 (.tmp 0) 1) 0 [v12_22] (fun v67_36 w =>
 oM Tryd.prog (.load 9 (.tmp 0)) 9 [v67_36] (fun v68_37 w =>
 callM Tryd.prog 50 #[(l_16.getD 12 undef), v68_37] (fun v69_38 w =>
 callM Tryd.prog 54 #[(l_16.getD 12 undef)] (fun v71_39 w =>
 joinM (fun M_40 => (pre_9_40 l_16 v12_22 v69_38 M_40 w))
 (fun l_41 u_l_41 w => (post_9_40 K M_19 l_16 v12_22 v61_33 v65_35 v69_38 v71_39 l_41 w))) w) w) w) w) w)) w)
 (oM Tryd.prog (.binOp .eql 3 (.tmp 0) (.const (.int .i64 1)) 3) 4 [v59_32] (fun v108_78 w =>
 condM v108_78
 (oM Tryd.prog (.binOp .eql 53 (.tmp 0) (.const (.pointer none)) 53) 4 [(l_16.getD 12 undef)] (fun v110_79 w =>
 condM v110_79
 (M_19 [v61_33, (l_16.getD 1 undef), (l_16.getD 2 undef), (l_16.getD 3 undef), (l_16.getD 4 undef), (l_16.getD 5 undef), v108_78, (l_16.getD 7 undef), (l_16.getD 8 undef), (l_16.getD 9 undef), (l_16.getD 10 undef), (l_16.getD 11 undef), (l_16.getD 12 undef), (l_16.getD 13 undef)] w)
 (callM Tryd.prog 61 #[(l_16.getD 12 undef)] (fun v112_80 w =>
 oM Tryd.prog (.binOp .eql 54 (.tmp 0) (.const (.int .i64 0)) 54) 4 [v112_80] (fun v113_81 w =>
 condM v113_81
 (callM Tryd.prog 54 #[(l_16.getD 12 undef)] (fun v115_82 w =>
 M_19 [v61_33, (l_16.getD 1 undef), (l_16.getD 2 undef), (l_16.getD 3 undef), (l_16.getD 4 undef), (l_16.getD 5 undef), v108_78, v115_82, (l_16.getD 8 undef), (l_16.getD 9 undef), (l_16.getD 10 undef), (l_16.getD 11 undef), (l_16.getD 12 undef), (l_16.getD 13 undef)] w) w)
 (M_19 [v61_33, (l_16.getD 1 undef), (l_16.getD 2 undef), (l_16.getD 3 undef), (l_16.getD 4 undef), (l_16.getD 5 undef), v108_78, (l_16.getD 7 undef), (l_16.getD 8 undef), (l_16.getD 9 undef), (l_16.getD 10 undef), (l_16.getD 11 undef), (l_16.getD 12 undef), (l_16.getD 13 undef)] w)) w) w)) w)
 (oM Tryd.prog (.binOp .eql 3 (.tmp 0) (.const (.int .i64 2)) 3) 4 [v59_32] (fun v117_83 w =>
 condM v117_83
 (oM Tryd.prog (.fieldAddr 67 (.tmp 0) 2) 0 [v12_22] (fun v119_84 w =>
 oM Tryd.prog (.load 3 (.tmp 0)) 3 [v119_84] (fun v120_85 w =>
 callM Tryd.prog 58 #[v28_8, v120_85] (fun v121_86 w =>
 M_19 [v61_33, (l_16.getD 1 undef), (l_16.getD 2 undef), (l_16.getD 3 undef), (l_16.getD 4 undef), (l_16.getD 5 undef), v108_78, (l_16.getD 7 undef), v117_83, (l_16.getD 9 undef), (l_16.getD 10 undef), (l_16.getD 11 undef), (l_16.getD 12 undef), (l_16.getD 13 undef)] w) w) w) w)
 (oM Tryd.prog (.binOp .eql 3 (.tmp 0) (.const (.int .i64 3)) 3) 4 [v59_32] (fun v123_87 w =>
 condM v123_87
 (oM Tryd.prog (.fieldAddr 67 (.tmp 0) 2) 0 [v12_22] (fun v125_88 w =>
 oM Tryd.prog (.load 3 (.tmp 0)) 3 [v125_88] (fun v126_89 w =>
 oM Tryd.prog (.fieldAddr 67 (.tmp 0) 3) 0 [v12_22] (fun v127_90 w =>
 oM Tryd.prog (.load 22 (.tmp 0)) 22 [v127_90] (fun v128_91 w =>
 callM Tryd.prog 59 #[v28_8, v126_89, v128_91] (fun v129_92 w =>
 M_19 [v61_33, (l_16.getD 1 undef), (l_16.getD 2 undef), (l_16.getD 3 undef), (l_16.getD 4 undef), (l_16.getD 5 undef), v108_78, (l_16.getD 7 undef), v117_83, v123_87, (l_16.getD 10 undef), (l_16.getD 11 undef), (l_16.getD 12 undef), (l_16.getD 13 undef)] w) w) w) w) w) w)
 (joinM (fun M_93 => (oM Tryd.prog (.binOp .eql 3 (.tmp 0) (.const (.int .i64 4)) 3) 4 [v59_32] (fun v131_95 w =>
 condM v131_95
 (M_93 [v131_95] w)
 (oM Tryd.prog (.binOp .eql 3 (.tmp 0) (.const (.int .i64 5)) 3) 4 [v59_32] (fun v132_96 w =>
 M_93 [v132_96] w) w)) w))
 (fun l_94 u_l_94 w => (post_9_93 K M_19 a0 l_16 v108_78 v117_83 v123_87 v12_22 v28_8 v61_33 l_94 w)))) w)) w)) w)) w) w) w
def pre_9_19 (K : Value → World → Prop) (a0 : Value) (a1 : Value) (l_16 : List Value) (v28_8 : Value) (M_19 : List Value → World → Prop) (w : World) : Prop :=
 oM Tryd.prog (.build 67 #[(0, (.tmp 0)), (3, (.tmp 1))]) 67 [(.int .i64 4), a1] (fun v45_21 w =>
 oM Tryd.prog (.alloc 67) 0 [] (fun v12_22 w =>
 oM Tryd.prog (.store 67 (.tmp 0) (.tmp 1)) 0 [v12_22, v45_21] (fun _ w =>
 joinM (fun M_23 => (pre_9_23 a0 l_16 v12_22 v28_8 M_23 w))
 (fun l_24 u_l_24 w => (post_9_23 K M_19 a0 l_16 v12_22 v28_8 l_24 w))) w) w) w
def post_9_19 (J_14 : List Value → World → Prop) (l_16 : List Value) (m_15 : List Value → World → Nat) (w0_l_16 : World) (l_20 : List Value) (w : World) : Prop :=
 oM Tryd.prog (.binOp .add 3 (.tmp 0) (.tmp 1) 3) 3 [(l_16.getD 14 undef), (.int .i64 1)] (fun v43_129 w =>
 J_14 [(l_20.getD 0 undef), (l_20.getD 1 undef), (l_20.getD 2 undef), (l_20.getD 3 undef), (l_20.getD 4 undef), (l_20.getD 5 undef), (l_20.getD 6 undef), (l_20.getD 7 undef), (l_20.getD 8 undef), (l_20.getD 9 undef), (l_20.getD 10 undef), (l_20.getD 11 undef), (l_20.getD 12 undef), (l_20.getD 13 undef), v43_129] w ∧ m_15 [(l_20.getD 0 undef), (l_20.getD 1 undef), (l_20.getD 2 undef), (l_20.getD 3 undef), (l_20.getD 4 undef), (l_20.getD 5 undef), (l_20.getD 6 undef), (l_20.getD 7 undef), (l_20.getD 8 undef), (l_20.getD 9 undef), (l_20.getD 10 undef), (l_20.getD 11 undef), (l_20.getD 12 undef), (l_20.getD 13 undef), v43_129] w < m_15 l_16 w0_l_16) w
def loop_9_14 (J_14 : List Value → World → Prop) (K : Value → World → Prop) (a0 : Value) (a1 : Value) (l_16 : List Value) (m_15 : List Value → World → Nat) (v18_1 : Value) (v28_8 : Value) (w0_l_16 : World) : Prop :=
(fun w => (
 oM Tryd.prog (.call (Go.Call.mk (.builtin .len) #[(.tmp 0)] #[64])) 3 [a0] (fun v40_17 w =>
 oM Tryd.prog (.binOp .leq 3 (.tmp 0) (.tmp 1) 3) 4 [(l_16.getD 14 undef), v40_17] (fun v41_18 w =>
 condM v41_18
 (joinM (fun M_19 => (pre_9_19 K a0 a1 l_16 v28_8 M_19 w))
 (fun l_20 u_l_20 w => (post_9_19 J_14 l_16 m_15 w0_l_16 l_20 w)))
 (K v18_1 w)) w) w)) w0_l_16
def sh_9 (a0 : Value) (a1 : Value) (K : Value → World → Prop) (w : World) : Prop :=
 callM Tryd.prog 46 #[] (fun v18_1 w =>
 callM Tryd.prog 57 #[a0] (fun v20_2 w =>
 oM Tryd.prog (.unOp .not 4 (.tmp 0)) 4 [v20_2] (fun v21_3 w =>
 gdM (gd v21_3 false) (pureM a1) (fun v23_4 w =>
 gdM (gd v21_3 false) (oM Tryd.prog (.call (Go.Call.mk (.builtin .len) #[(.tmp 0)] #[22])) 3 [v23_4]) (fun v24_5 w =>
 gdM (gd v21_3 false) (oM Tryd.prog (.binOp .gtr 3 (.tmp 0) (.tmp 1) 3) 4 [v24_5, (.int .i64 50)]) (fun v25_6 w =>
 oM Tryd.prog (.pick (.tmp 0) (.tmp 1) (.tmp 2)) 4 [v21_3, (.bool true), v25_6] (fun v26_7 w =>
 condM v26_7
 (K v18_1 w)
 (callM Tryd.prog 48 #[] (fun v28_8 w =>
 oM Tryd.prog (.binOp .eql 51 (.tmp 0) (.const (.pointer none)) 51) 4 [v28_8] (fun v30_9 w =>
 condM v30_9
 (K (.bool false) w)
 (callM Tryd.prog 49 #[v28_8, (.int .i64 3)] (fun v33_10 w =>
 oM Tryd.prog (.extract (.tmp 0) 0) 53 [v33_10] (fun v34_11 w =>
 oM Tryd.prog (.extract (.tmp 0) 1) 54 [v33_10] (fun v35_12 w =>
 oM Tryd.prog (.binOp .eql 53 (.tmp 0) (.const (.pointer none)) 53) 4 [v34_11] (fun v37_13 w =>
 condM v37_13
 (K (.bool false) w)
 (loopM [undef, undef, undef, undef, (.slice none 0 0), (.bool false), undef, (.slice none 0 0), undef, undef, undef, undef, v34_11, undef, (.int .i64 0)] w (fun J_14 m_15 l_16 u_l_16 w0_l_16 => loop_9_14 J_14 K a0 a1 l_16 m_15 v18_1 v28_8 w0_l_16))) w) w) w) w)) w) w)) w) w) w) w) w) w) w
theorem sh_9_eq (a0 : Value) (a1 : Value) (K : Value → World → Prop) (w : World) : sh_9 a0 a1 K w = code Tryd.prog (fun _ => .free [1, 3, 4] [0, 2, 5] [6, 7]) 177 (Tryd.f9.body.getD .skip) (slotsAt [a0, a1]) (retK Tryd.prog [.tmp 4] K) w := by kernel_rfl
theorem sh_9_ok {a0 a1 : Value} {K : Value → World → Prop} {w : World} (h : sh_9 a0 a1 K w) : callM Tryd.prog 9 #[a0, a1] K w :=
  calls_of_code (fun _ => .free [1, 3, 4] [0, 2, 5] [6, 7]) (fn := Tryd.f9) (rs := [.tmp 4]) Tryd.func9 rfl rfl (by kernel_rfl) (Nat.le_of_ble_eq_true rfl) ((sh_9_eq a0 a1 K w).mp h)
end Go.Proofs
namespace Go.Proofs
open Go Go.Sh Go.RowKit CodeSpec JnSpec DkSpec
set_option linter.unusedSimpArgs false
set_option linter.unusedVariables false
set_option maxRecDepth 10000
attribute [local go_sem] oM_indexAddr
def RowN {α : Type} (mk : α → List Value) (N : Nat) (w : World) (v : Value) (l : List α) : Prop :=
  ∃ ad c, v = .slice ad l.length c ∧ (ad = none → l.length = 0 ∧ c = 0) ∧ (l = [] ∨ ∃ b o, ad = some ⟨b, o, none⟩ ∧ b < N ∧ ∀ (k : Nat) (x : Value), (flat mk l)[k]? = some x → w.cell? ⟨b, o + k, none⟩ = some x)
theorem RowN.row {α : Type} {mk : α → List Value} {N sz : Nat} {w : World} {v : Value} {l : List α} (h : RowN mk N w v l) (hN : N ≤ w.heap.size) : RowR mk sz w v l := by
  obtain ⟨ad, c, h1, h2, h3⟩ := h
  exact ⟨ad, c, h1, h2, h3.imp id (fun ⟨b, o, h4, h5, h6⟩ => ⟨b, o, h4, by omega, h6⟩)⟩
theorem RowN.below {α : Type} {mk : α → List Value} {N : Nat} {w w' : World} {v : Value} {l : List α} (h : RowN mk N w v l) (hb : Below N w w') : RowN mk N w' v l := by
  obtain ⟨ad, c, h1, h2, h3⟩ := h
  exact ⟨ad, c, h1, h2, h3.imp id (fun ⟨b, o, h4, h5, h6⟩ => ⟨b, o, h4, h5, fun k x hk => by rw [hb.cell h5]; exact h6 k x hk⟩)⟩
def InN (n : Int) : Prop := -2 ^ 63 ≤ n ∧ n < 2 ^ 63
structure JOp where
  k : Int
  s : Bs
  n : Int
  keep : List Int
structure OpCells (N : Nat) (w : World) (cs : List Value) (x : JOp) : Prop where
  row : ∃ vk, cs = [.int .i64 x.k, bsV x.s, .int .i64 x.n, vk] ∧ RowN intC N w vk x.keep
  kin : InN x.k
  nin : InN x.n
  kr : ∀ y ∈ x.keep, InN y
theorem OpCells.below {N : Nat} {w w' : World} {cs : List Value} {x : JOp} (h : OpCells N w cs x) (hb : Below N w w') : OpCells N w' cs x := by
  obtain ⟨vk, h1, h2⟩ := h.row
  exact ⟨⟨vk, h1, h2.below hb⟩, h.kin, h.nin, h.kr⟩
def OpRow (N : Nat) (w : World) (v : Value) (l : List JOp) : Prop :=
  ∃ ad c, v = .slice ad l.length c ∧ (l = [] ∨ ∃ b o, ad = some ⟨b, o, none⟩ ∧ b < N ∧ ∀ (i : Nat) (h : i < l.length), ∃ cs, OpCells N w cs l[i] ∧ cs.length = 4 ∧ ∀ j, j < 4 → w.cell? ⟨b, o + i * 4 + j, none⟩ = cs[j]?)
theorem OpRow.below {N : Nat} {w w' : World} {v : Value} {l : List JOp} (h : OpRow N w v l) (hb : Below N w w') : OpRow N w' v l := by
  obtain ⟨ad, c, h1, h2⟩ := h
  refine ⟨ad, c, h1, h2.imp id ?_⟩
  rintro ⟨b, o, h3, h4, h5⟩
  refine ⟨b, o, h3, h4, fun i hi => ?_⟩
  obtain ⟨cs, h6, h7, h8⟩ := h5 i hi
  exact ⟨cs, h6.below hb, h7, fun j hj => by rw [hb.cell h4]; exact h8 j hj⟩
theorem OpRow.at {N : Nat} {w : World} {v : Value} {l : List JOp} (h : OpRow N w v l) {i : Nat} (hi : i < l.length) : ∃ b o c vk, v = .slice (some ⟨b, o, none⟩) l.length c ∧ RowN intC N w vk l[i].keep ∧ OpCells N w [.int .i64 l[i].k, bsV l[i].s, .int .i64 l[i].n, vk] l[i] ∧
    w.cell? ⟨b, o + i * 4, none⟩ = some (.int .i64 l[i].k) ∧ w.cell? ⟨b, o + i * 4 + 1, none⟩ = some (bsV l[i].s) ∧ w.cell? ⟨b, o + i * 4 + 2, none⟩ = some (.int .i64 l[i].n) ∧ w.cell? ⟨b, o + i * 4 + 3, none⟩ = some vk := by
  obtain ⟨ad, c, rfl, h2⟩ := h
  rcases h2 with rfl | ⟨b, o, rfl, hb, hc⟩
  · simp at hi
  · obtain ⟨cs, h6, h7, h8⟩ := hc i hi
    obtain ⟨vk, rfl, hr⟩ := h6.row
    exact ⟨b, o, c, vk, rfl, hr, h6, h8 0 (by omega), h8 1 (by omega), h8 2 (by omega), h8 3 (by omega)⟩
theorem OpRow.len {N : Nat} {w : World} {v : Value} {l : List JOp} (h : OpRow N w v l) : ∃ a c, v = .slice a l.length c := by
  obtain ⟨ad, c, rfl, _⟩ := h; exact ⟨ad, c, rfl⟩
theorem idxOp {b o n c k : Nat} (hk : k < n) (w : World) : (Instr.indexAt 64 (.slice (some ⟨b, o, none⟩) n c) (.int .i64 k)).run Tryd.prog w = .ok (.pointer (some ⟨b, o + k * 4, none⟩)) w := by
  rw [run_indexAt_slice (h := by kernel_rfl), if_pos (by omega)]
  have hs : (sizeOf (Tryd.prog.elem 64)).run Tryd.prog w = .ok 4 w := by kernel_rfl
  rw [hs]
  simp only [Result.andThen, Int.toNat_natCast, add_none]
theorem loadOp {w : World} {b o : Nat} {v0 v1 v2 v3 : Value} (c0 : w.cell? ⟨b, o, none⟩ = some v0) (c1 : w.cell? ⟨b, o + 1, none⟩ = some v1) (c2 : w.cell? ⟨b, o + 2, none⟩ = some v2) (c3 : w.cell? ⟨b, o + 3, none⟩ = some v3) : (Instr.loadAt 67 (.pointer (some ⟨b, o, none⟩))).run Tryd.prog w = .ok (.agg #[v0, v1, v2, v3]) w := by
  refine run_loadAt_mid w b o 67 [v0, v1, v2, v3] _ ?_ Tryd.underlying67 rfl (by kernel_rfl)
  intro j v hj
  match j, hj with
  | 0, hj => rw [← hj]; exact c0
  | 1, hj => rw [← hj]; exact c1
  | 2, hj => rw [← hj]; exact c2
  | 3, hj => rw [← hj]; exact c3
def FewO (l : List JOp) : Prop := l.length ≤ 25 ∧ ∀ x ∈ l, x.s.length ≤ 200 ∧ x.keep.length ≤ 50
section
variable {w w1 : World} {K : Value → World → Prop}
set_option maxHeartbeats 1000000 in
theorem few_ok {N : Nat} {v : Value} {l : List JOp} (hr : OpRow N w v l) (hl : l.length ≤ 9223372036854775807) (k : ∀ t, (t = true → FewO l) → K (.bool t) w) : callM Tryd.prog 57 #[v] K w := by
  apply sh_57_ok
  unfold sh_57
  obtain ⟨va, vc, hv⟩ := hr.len
  rw [hv] at hr ⊢
  refine ⟨fun l' w' => w' = w ∧ ∃ (u : Value) (i : Nat), l' = [u, .int .i64 (i : Int)] ∧ i ≤ l.length ∧ ∀ x ∈ l.take i, x.s.length ≤ 200 ∧ x.keep.length ≤ 50, fun l' _ => match l' with | [_, .int _ m] => ((l.length : Int) - m).toNat | _ => 0, ⟨rfl, _, 0, rfl, by omega, by simp⟩, ?_⟩
  rintro l' u w1 ⟨rfl, u1, i, rfl, hi, hpre⟩
  simp only [List.getD_cons_zero, List.getD_cons_succ]
  by_cases hlt : i < l.length
  · obtain ⟨b, o, c, vk, he, hrk, hcs, c0, c1, c2, c3⟩ := hr.at hlt
    cases he
    have hix := idxOp (b := b) (o := o) (c := vc) hlt w1
    obtain ⟨ad, kc, rfl, _⟩ := hrk
    have fin : l[i].s.length ≤ 200 → l[i].keep.length ≤ 50 → ∀ x ∈ l.take (i + 1), x.s.length ≤ 200 ∧ x.keep.length ≤ 50 := by
      intro h1 h2 x hx
      rw [List.take_succ_eq_append_getElem hlt] at hx
      rcases List.mem_append.1 hx with hx | hx
      · exact hpre x hx
      · simp only [List.mem_singleton] at hx
        rw [hx]; exact ⟨h1, h2⟩
    simp only [bsV] at c1
    by_cases h1 : l[i].s.length ≤ 200
    · by_cases h2 : l[i].keep.length ≤ 50
      · have hfin := fin h1 h2
        have h1' : ¬ (200 : Int) < (l[i].s.length : Int) := by omega
        have h2' : ¬ (50 : Int) < (l[i].keep.length : Int) := by omega
        repeat (any_goals (first
        | (with_reducible first|refine pureM_in ?_|((refine idGd ?_); refine zC ?_)|((refine idPick ?_); refine yC ?_)|((refine idCond ?_); first|refine yM ?_|refine yN ?_))
        | ((with_reducible refine idO ?_); (with_reducible refine oM_gen fun Kv hK=>?_); simp [go_sem, hix, c0, c1, c2, c3, h1', h2']; (try simp (disch := omega) only [wrapI64, wrapU8, wrapU32, wrapU64]); refine hK _ _ ?_; clear hK; clear Kv)))
        refine ⟨⟨rfl, _, i + 1, rfl, hlt, hfin⟩, ?_⟩
        show ((l.length : Int) - ((i : Int) + 1)).toNat < ((l.length : Int) - (i : Int)).toNat
        omega
      · repeat (any_goals (first
        | (with_reducible first|refine pureM_in ?_|((refine idGd ?_); ((refine idGdD ?_); refine zI ?_))|((refine idPick ?_); refine yE ?_)|((refine idCond ?_); refine yN ?_))
        | ((with_reducible refine idO ?_); (with_reducible refine oM_gen fun Kv hK=>?_); simp [go_sem, hix, c0, c1, c2, c3]; refine hK _ _ ?_; clear hK; clear Kv)))
        exact k false (fun h => by cases h)
    · repeat (any_goals (first
      | (with_reducible first|((refine idGd ?_); ((refine idGdD ?_); refine zJ ?_))|((refine idPick ?_); refine yD ?_)|((refine idCond ?_); first|refine yL ?_|refine yN ?_))
      | ((with_reducible refine idO ?_); (with_reducible refine oM_gen fun Kv hK=>?_); simp [go_sem, hix, c0, c1, c2, c3]; refine hK _ _ ?_; clear hK; clear Kv)))
      exact k false (fun h => by cases h)
  · repeat (any_goals (first
    | (with_reducible ((refine idCond ?_); refine yO ?_))
    | ((with_reducible refine idO ?_); (with_reducible refine oM_gen fun Kv hK=>?_); simp [go_sem]; refine hK _ _ ?_; clear hK; clear Kv)))
    refine k _ (fun h => ⟨by simp at h; omega, ?_⟩)
    rw [List.take_of_length_le (by omega)] at hpre
    exact hpre
end
end Go.Proofs
namespace Go.Proofs
open Go Go.Sh Go.RowKit CodeSpec JnSpec DkSpec
set_option linter.unusedSimpArgs false
set_option linter.unusedVariables false
set_option maxRecDepth 10000
def GJ (A : Ab) : Option Jn → List Bs → List Bs → Prop
  | some j, all, sure => LJ 3 A j all sure
  | none, all, sure => GoodJ 3 A all sure
theorem GJ.good {A : Ab} {jo : Option Jn} {all sure : List Bs} (g : GJ A jo all sure) : GoodJ 3 A all sure := by
  cases jo with
  | none => exact g
  | some j => exact LJ.good g
theorem GJ.lose {A : Ab} {jo : Option Jn} {all sure : List Bs} (g : GJ A jo all sure) (n : Int) (hn : n < 2 ^ 63) : GJ (loseA A n) jo all sure := by
  cases jo with
  | none => exact GoodJ.lose g n hn
  | some j => exact LJ.lose g n hn
theorem GJ.arm {A : Ab} {jo : Option Jn} {all sure : List Bs} (g : GJ A jo all sure) (n : Int) (hn : n < 2 ^ 63) (keep : List Int) (hk : ∀ x ∈ keep, -2 ^ 63 ≤ x ∧ x < 2 ^ 63) (hl : keep.length < 2 ^ 62) : GJ (armA A n keep) jo all sure := by
  cases jo with
  | none => exact GoodJ.arm g n hn keep hk hl
  | some j => exact LJ.arm g n hn keep hk hl
def JnV (w0 W : World) (Kp : Nat → Prop) (b : Nat) (h : Dk) (jv : Value) : Option Jn → Prop
  | none => jv = .pointer none
  | some j => ∃ p u, jv = jnP p ∧ IsJn W b h p 3 j u ∧ ∀ i, JO p u i → w0.heap.size ≤ i ∧ ¬ Kp i
structure LS (w0 W : World) (Kp : Nat → Prop) (b : Nat) (A : Ab) (h : Dk) (jo : Option Jn) (jv : Value) (all sure : List Bs) : Prop where
  s : Sys W b A h
  g : GJ A jo all sure
  jn : JnV w0 W Kp b h jv jo
  ow : ∀ i, Own b h i → w0.heap.size ≤ i
  bl : Below w0.heap.size w0 W
  kp : ∀ k, Kp k → k < W.heap.size ∧ ¬ Own b h k ∧ ¬ Rdb h k
section
variable {w0 W W' : World} {Kp Kp' : Nat → Prop} {b p : Nat} {A A' : Ab} {h h' : Dk} {jo : Option Jn} {j j' : Jn} {jv u u' : Value} {all sure all' sure' : List Bs} {K : Value → World → Prop}
theorem LS.grow (L : LS w0 W Kp b A h jo jv all sure) (hb : Below W.heap.size W W') (hk : ∀ k, Kp' k → Kp k ∨ (W.heap.size ≤ k ∧ k < W'.heap.size)) : LS w0 W' Kp' b A h jo jv all sure := by
  have hz := L.bl.size
  refine ⟨L.s.below hb, L.g, ?_, L.ow, L.bl.trans (hb.mono hz), fun k hkp => ?_⟩
  · have hj := L.jn
    cases jo with
    | none => exact hj
    | some j =>
      obtain ⟨p, u, e, jn, hjo⟩ := hj
      refine ⟨p, u, e, jn.below hb, fun i hi => ⟨(hjo i hi).1, fun hkp => ?_⟩⟩
      have hlt := jn.lt hi
      exact (hk i hkp).elim (hjo i hi).2 (fun e => by omega)
  · rcases hk k hkp with e | e
    · have := L.kp k e
      exact ⟨Nat.lt_of_lt_of_le this.1 hb.size, this.2⟩
    · exact ⟨e.2, fun ho => by have := L.s.d.lt (.inl ho); omega, fun ho => by have := L.s.d.lt (.inr ho); omega⟩
theorem LS.below (L : LS w0 W Kp b A h jo jv all sure) (hb : Below W.heap.size W W') : LS w0 W' Kp b A h jo jv all sure := L.grow hb (fun _ h => .inl h)
theorem LS.less (L : LS w0 W Kp b A h jo jv all sure) (hk : ∀ k, Kp' k → Kp k) : LS w0 W Kp' b A h jo jv all sure := L.grow (Below.refl _ _) (fun k hkp => .inl (hk k hkp))
theorem LS.disk (L : LS w0 W Kp b A h jo jv all sure) (d : IsDk W' b A' h') (t : Step W b h W' h') (g' : GJ A' jo all' sure') : LS w0 W' Kp b A' h' jo jv all' sure' ∧ ∀ k, Kp k → W'.heap[k]? = W.heap[k]? := by
  have hz := L.bl.size
  refine ⟨⟨L.s.step d t, g', ?_, own_step t L.ow hz, L.bl.trans (below_of_step t L.ow hz), fun k hk => ?_⟩, fun k hk => t.fr.block k (L.kp k hk).1 (L.kp k hk).2.1⟩
  · have hj := L.jn
    cases jo with
    | none => exact hj
    | some j =>
      obtain ⟨p, u, e, jn, hjo⟩ := hj
      exact ⟨p, u, e, jn.step t, hjo⟩
  · have := L.kp k hk
    exact ⟨Nat.lt_of_lt_of_le this.1 t.fr.size, fun ho => (t.own k ho).elim this.2.1 (fun e => by omega), fun ho => (t.rd k ho).elim this.2.2 (fun e => by omega)⟩
theorem LS.jour (L : LS w0 W Kp b A h (some j) jv all sure) (e : jv = jnP p) (hjo : ∀ i, JO p u i → w0.heap.size ≤ i ∧ ¬ Kp i) (s' : Sys W' b A' h') (jn' : IsJn W' b h' p 3 j' u') (t : JSt W b h p u W' h' u') (g' : LJ 3 A' j' all' sure') : LS w0 W' Kp b A' h' (some j') jv all' sure' ∧ ∀ k, Kp k → W'.heap[k]? = W.heap[k]? := by
  have hz := L.bl.size
  have hj1 : ∀ i, JO p u i → w0.heap.size ≤ i := fun i hi => (hjo i hi).1
  refine ⟨⟨s', g', ⟨p, u', e, jn', fun i hi => ?_⟩, fun i hi => ?_, L.bl.trans (below_of_jst t L.ow hj1 hz), fun k hk => ?_⟩, fun k hk => t.fr.block k (L.kp k hk).1 (fun ho => ho.elim (L.kp k hk).2.1 (fun hi => (hjo k hi).2 hk))⟩
  · exact (t.jo i hi).elim (hjo i) (fun e => ⟨by omega, fun hk => by have := (L.kp i hk).1; omega⟩)
  · exact (t.own i hi).elim (L.ow i) (fun e => by omega)
  · have := L.kp k hk
    exact ⟨Nat.lt_of_lt_of_le this.1 t.fr.size, fun ho => (t.own k ho).elim this.2.1 (fun e => by omega), fun ho => (t.rd k ho).elim this.2.2 (fun e => by omega)⟩
theorem LS.write (L : LS w0 W Kp b A h jo jv all sure) {S : Nat → Prop} (f : Fr S W W') (h6 : 6 ≤ w0.heap.size) (hS : ∀ i, S i → Kp i ∧ w0.heap.size ≤ i) : LS w0 W' Kp b A h jo jv all sure := by
  have hz := L.bl.size
  refine ⟨L.s.fresh f (fun i hi => ⟨fun ho => ho.elim (L.kp i (hS i hi).1).2.1 (L.kp i (hS i hi).1).2.2, by have := (hS i hi).2; omega⟩), L.g, ?_, L.ow, L.bl.trans ⟨f.os, f.tape, f.output, f.size, fun i hi => f.block i (by omega) (fun hs => by have := (hS i hs).2; omega)⟩, fun k hk => ⟨Nat.lt_of_lt_of_le (L.kp k hk).1 f.size, (L.kp k hk).2⟩⟩
  have hj := L.jn
  cases jo with
  | none => exact hj
  | some j =>
    obtain ⟨p, u, e, jn, hjo⟩ := hj
    exact ⟨p, u, e, jn.keep f (fun i hi hji => (hjo i hji).2 (hS i hi).1) (fun i hi => hi.elim .inl (fun h => .inr (.inl h))), hjo⟩
def LM (w0 : World) (b m : Nat) (vs : List Value) (W : World) : Prop :=
  ∃ A h jo all sure, LS w0 W (fun k => (vs.getD 4 undef).ownBlock = some k ∨ (vs.getD 7 undef).ownBlock = some k) b A h jo (vs.getD 12 undef) all sure ∧ W.ownsRow w0.heap.size 9 1 (vs.getD 4 undef) all.length (all.map Cd.strV) ∧ W.ownsRow w0.heap.size 9 1 (vs.getD 7 undef) sure.length (sure.map Cd.strV) ∧ all.length ≤ m
theorem row_keep {n : Nat} {xs : List Value} {B : Nat} {T : TypeId} {v : Value} (r : W.ownsRow B T 1 v n xs) (hk : ∀ k, Kp k → W'.heap[k]? = W.heap[k]?) (hv : ∀ k, v.ownBlock = some k → Kp k) : W'.ownsRow B T 1 v n xs := owns_keep r (fun i hi => hk i (hv i hi))
theorem row_below {n : Nat} {xs : List Value} {B : Nat} {T : TypeId} {v : Value} (r : W.ownsRow B T 1 v n xs) (hb : Below W.heap.size W W') : W'.ownsRow B T 1 v n xs := owns_keep r (fun i hi => hb.block i (owns_own r hi).1)
def Kp2 (Kp : Nat → Prop) (v : Value) : Nat → Prop := fun k => Kp k ∨ v.ownBlock = some k
theorem LS.row (L : LS w0 W Kp b A h jo jv all sure) (hb : Below W.heap.size W W') {n : Nat} {xs : List Value} {T : TypeId} {v : Value} (r : W'.ownsRow W.heap.size T 1 v n xs) : LS w0 W' (Kp2 Kp v) b A h jo jv all sure :=
  L.grow hb (fun k hk => hk.imp id (fun e => ⟨(owns_own r e).2.1, (owns_own r e).1⟩))
end
end Go.Proofs
namespace Go.Proofs
open Go Go.Sh Go.RowKit CodeSpec JnSpec DkSpec
set_option linter.unusedSimpArgs false
set_option linter.unusedVariables false
set_option maxRecDepth 10000
section
variable {w0 W W' : World} {Kp Kp' : Nat → Prop} {b p : Nat} {A A' : Ab} {h h' : Dk} {jo : Option Jn} {j j' : Jn} {jv u u' : Value} {all sure all' sure' : List Bs} {K : Value → World → Prop}
theorem begins_true {l m : List Bs} (h : m <+: l) : decide (m.length ≤ l.length ∧ l.take m.length = m) = true := by
  rw [decide_eq_true_iff]
  exact ⟨h.length_le, (List.prefix_iff_eq_take.1 h).symm⟩
theorem own_cap {n : Nat} {xs : List Value} {B : Nat} {T : TypeId} {v : Value} (r : W.ownsRow B T 1 v n xs) : ∀ a n c, v = .slice a n c → n ≤ c := by
  intro a n' c e
  rcases r.2 with ⟨rfl, _⟩ | ⟨g, cap, cur, rfl, _, _, hc, _⟩
  · cases e; exact Nat.le_refl _
  · cases e; exact hc
theorem re_ok {l : List JOp} {a0 : Value} {l16 l94 l98 : List Value} {v108 v117 v123 v61 : Value} {i : Nat} {M : List Value → World → Prop} (hM : ∀ vs W, LM w0 b (i + 1) vs W → M vs W) (L : LS w0 W Kp b A h jo jv all sure)
    (ho : OpRow w0.heap.size W a0 l) (hi : l16.getD 14 undef = .int .i64 (i : Int)) (hil : l.length ≤ 25)
    (ra : W.ownsRow w0.heap.size 9 1 (l16.getD 4 undef) all.length (all.map Cd.strV)) (rs : W.ownsRow w0.heap.size 9 1 (l16.getD 7 undef) sure.length (sure.map Cd.strV)) (hal : all.length ≤ i + 1) (hi2 : i ≤ l.length)
    (hk1 : ∀ k, (l16.getD 4 undef).ownBlock = some k → Kp k) (hk2 : ∀ k, (l16.getD 7 undef).ownBlock = some k → Kp k)
    (fin : i = l.length → A.lost = 0 ∧ A.armed = 0) : post_9_97 K M a0 l16 l94 v108 v117 v123 (dkP b) v61 l98 W := by
  unfold post_9_97
  refine start_ok L.s.d (fun W1 d1 t1 => ?_)
  have hz := L.bl.size
  have gd := L.g.good.start
  have s1 := L.s.step d1 t1
  refine openJ_ok s1 3 (fun W2 h2 r s2 t2 o2 => ?_)
  have hb12 : Below w0.heap.size W W2 := below_of_step (t1.trans t2) L.ow hz
  have ow2 := own_step (t1.trans t2) L.ow hz
  have bl2 := L.bl.trans hb12
  have heq : ∀ k, Kp k → W2.heap[k]? = W.heap[k]? := fun k hk => (t1.trans t2).fr.block k (L.kp k hk).1 (L.kp k hk).2.1
  have kp2 : ∀ k, Kp k → k < W2.heap.size ∧ ¬ Own b h2 k ∧ ¬ Rdb h2 k := fun k hk => by
    have := L.kp k hk
    exact ⟨Nat.lt_of_lt_of_le this.1 (t1.trans t2).fr.size, fun ho => ((t1.trans t2).own k ho).elim this.2.1 (fun e => by omega), fun ho => ((t1.trans t2).rd k ho).elim this.2.2 (fun e => by omega)⟩
  have ra2 := row_keep ra heq hk1
  have rs2 := row_keep rs heq hk2
  have ho2 := ho.below hb12
  obtain ⟨va, vc, rfl⟩ := ho2.len
  obtain ⟨g2, hcase⟩ := open_spec (f := 3) gd (by omega)
  obtain ⟨av, eav⟩ : ∃ av, av = l16.getD 4 undef := ⟨_, rfl⟩
  obtain ⟨sv, esv⟩ : ∃ sv, sv = l16.getD 7 undef := ⟨_, rfl⟩
  rw [← eav] at ra2 hk1
  rw [← esv] at rs2 hk2
  rw [hi, ← eav, ← esv]
  rcases hcase with ⟨hn, he⟩ | ⟨j, hs, he, hbr, hp1, hp2, hlive⟩
  · rw [hn] at o2
    have er : r = .pointer none := o2
    subst er
    have hne : i ≠ l.length := fun e => open_up (f := 3) gd (by omega) rfl (fin e).1 (fin e).2 hn
    have hne' : ¬ (i : Int) = (l.length : Int) := by omega
    repeat (any_goals (first
    | (with_reducible ((refine idCond ?_); refine yL ?_))
    | ((with_reducible refine idO ?_); (with_reducible refine oM_gen fun Kv hK=>?_); simp [go_sem]; refine hK _ _ ?_; clear hK; clear Kv)))
    refine disky_ok _ ?_
    have hd : decide ((openJ (startA A) 3).2.1 = 8 ∨ (openJ (startA A) 3).2.1 = 9) = true := by rw [decide_eq_true_iff]; exact he
    rw [hd]
    repeat (any_goals (first
    | (with_reducible first|refine pureM_in ?_|((refine idGd ?_); refine zC ?_)|((refine idPick ?_); refine yC ?_)|((refine idCond ?_); refine yO ?_))
    | ((with_reducible refine idO ?_); (with_reducible refine oM_gen fun Kv hK=>?_); simp [go_sem]; refine hK _ _ ?_; clear hK; clear Kv)))
    refine hM _ _ ⟨_, h2, none, all, sure, ⟨s2, g2, rfl, ow2, bl2, fun k hk => kp2 k (hk.elim (hk1 k) (hk2 k))⟩, ra2, rs2, hal⟩
  · rw [hs] at o2
    obtain ⟨p, u, rfl, jn2, hj2⟩ := o2
    rw [he]
    have hjz : ∀ i, JO p u i → W.heap.size ≤ i := fun k hk => by have := hj2 k hk; have := t1.fr.size; omega
    repeat (any_goals (first
    | (with_reducible ((refine idCond ?_); refine yM ?_))
    | ((with_reducible refine idO ?_); (with_reducible refine oM_gen fun Kv hK=>?_); simp [go_sem]; refine hK _ _ ?_; clear hK; clear Kv)))
    refine all_ok jn2 (fun nv W3 ro3 b3 => ?_)
    have ra3 := row_below ra2 b3
    have rs3 := row_below rs2 b3
    have hjl := jn2.len
    repeat (any_goals (first
    | (with_reducible first|refine pureM_in ?_|((refine idGd ?_); refine zC ?_))
    | ((with_reducible refine idO ?_); (with_reducible refine oM_gen fun Kv hK=>?_); simp [go_sem]; refine hK _ _ ?_; clear hK; clear Kv)))
    refine begins_ok (Cd.RowOf.of_owns (owns_zero ra3)) (own_cap ra3) (Cd.RowOf.of_owns (owns_zero ro3)) (by omega) (by omega) (fun W4 b4 => ?_)
    rw [begins_true hp1]
    have ro4 := row_below ro3 b4
    have rs4 := row_below rs3 b4
    have hsl := hp2.length_le
    repeat (any_goals (first
    | (with_reducible first|refine pureM_in ?_|((refine idGd ?_); refine zC ?_)|((refine idPick ?_); refine yC ?_))
    | ((with_reducible refine idO ?_); (with_reducible refine oM_gen fun Kv hK=>?_); simp [go_sem]; refine hK _ _ ?_; clear hK; clear Kv)))
    refine begins_ok (Cd.RowOf.of_owns (owns_zero ro4)) (own_cap ro4) (Cd.RowOf.of_owns (owns_zero rs4)) (by omega) (by omega) (fun W5 b5 => ?_)
    rw [begins_true hp2]
    have ro5 := row_below ro4 b5
    repeat (any_goals (first
    | (with_reducible first|((refine idGd ?_); refine zC ?_)|((refine idPick ?_); refine yC ?_)|((refine idCond ?_); refine yM ?_))
    | ((with_reducible refine idO ?_); (with_reducible refine oM_gen fun Kv hK=>?_); simp [go_sem]; refine hK _ _ ?_; clear hK; clear Kv)))
    have b35 : Below W2.heap.size W2 W5 := b3.trans ((b4.mono b3.size).trans (b5.mono (Nat.le_trans b3.size b4.size)))
    have hz2 := bl2.size
    have L2 : LS w0 W2 (fun _ => False) b _ h2 (some j) (jnP p) j.recs j.recs := ⟨s2, .inl ⟨hbr, hlive⟩, ⟨p, u, rfl, jn2, fun k hk => ⟨by have := hjz k hk; omega, fun e => e⟩⟩, ow2, bl2, fun k hk => hk.elim⟩
    have ro5' := owns_base ro5 hz2
    refine hM _ _ ⟨_, h2, some j, j.recs, j.recs, L2.grow b35 (fun k hk => .inr ?_), ro5', ro5', by have := hp1.length_le; omega⟩
    have hk : nv.ownBlock = some k := hk.elim id id
    have := owns_own ro5 hk
    exact ⟨this.2.1, this.1⟩
end
end Go.Proofs
namespace Go.Proofs
open Go Go.Sh Go.RowKit CodeSpec JnSpec DkSpec
set_option linter.unusedSimpArgs false
set_option linter.unusedVariables false
set_option maxRecDepth 10000
section
variable {w w0 W W' : World} {Kp Kp' : Nat → Prop} {b p : Nat} {A A' : Ab} {h h' : Dk} {jo : Option Jn} {j j' : Jn} {jv u u' : Value} {all sure all' sure' : List Bs} {K : Value → World → Prop}
theorem app_rows {v u : Value} {xs ys : List Bs} {B C : Nat} {T : TypeId} (hx : w.ownsRow B 9 1 v xs.length (xs.map Cd.strV)) (hy : w.ownsRow C 9 1 u ys.length (ys.map Cd.strV)) (hl : xs.length + ys.length < 2 ^ 40)
    (k : ∀ v' w', w'.ownsRow 0 9 1 v' (xs ++ ys).length ((xs ++ ys).map Cd.strV) → w.grownBy w' v.ownBlock → (∀ i, v'.ownBlock = some i → v.ownBlock = some i ∨ w.heap.size ≤ i) → K v' w') :
    oM Tryd.prog (.call { callee := .builtin .append, args := #[.tmp 0, .tmp 1], argTypes := #[23, 23] }) T [v, u] K w := by
  have hlen : (ys.map Cd.strV).length = ys.length * 1 := by simp
  have h1 : ∀ u ∈ ys.map Cd.strV, u.oneCell' = true := by
    intro u hu
    obtain ⟨s, _, rfl⟩ := List.mem_map.1 hu
    rfl
  have k' : ∀ v' w', w'.ownsRow 0 9 1 v' (xs.length + ys.length) (xs.map Cd.strV ++ ys.map Cd.strV) → w.grownBy w' v.ownBlock → (∀ i, v'.ownBlock = some i → v.ownBlock = some i ∨ w.heap.size ≤ i) → K v' w' := fun v' w' ho => by
    refine k v' w' ?_
    rw [List.length_append, List.map_append]; exact ho
  rcases hy.2 with ⟨rfl, h0⟩ | ⟨g, cap, cur, rfl, _⟩
  · have e0 : ys = [] := List.length_eq_zero_iff.1 h0
    subst e0
    exact append_at 23 T 9 Tryd.t9 (.string ⟨#[]⟩) 1 16 Tryd.underlying23 (by kernel_rfl) (by kernel_rfl) (by kernel_rfl) (by kernel_rfl) rfl (by omega) (owns_zero hx) [] rfl (fun _ => ⟨rfl, rfl⟩) (fun a ha => by cases ha) (by simp) (by unfold maxLen; simp only [List.length_nil] at *; omega) (by simp only [List.length_nil] at *; omega) k'
  · refine append_at 23 T 9 Tryd.t9 (.string ⟨#[]⟩) 1 16 Tryd.underlying23 (by kernel_rfl) (by kernel_rfl) (by kernel_rfl) (by kernel_rfl) rfl (by omega) (owns_zero hx) (ys.map Cd.strV) hlen (fun e => by cases e) (fun a ha i x hu => ?_) h1 (by unfold maxLen; omega) (by omega) k'
    cases ha
    have hlt := (List.getElem?_eq_some_iff.1 hu).1
    rw [List.length_map] at hlt
    obtain ⟨g', cap', cur', e, _, _, _, _, _, hcell⟩ := owns_cells hy (by omega)
    cases e
    rw [Cd.addr_add, Nat.zero_add]
    exact hcell i x hu
theorem slice1 {T : TypeId} (t : Bs) (k : ∀ v w', w'.ownsRow w.heap.size 9 1 v 1 [Cd.strV t] → Below w.heap.size w w' → K v w') : oM Tryd.prog (.buildSlice 23 1 #[(0, .tmp 0)]) T [.string ⟨t.toArray⟩] K w := by
  repeat (any_goals ((with_reducible refine idO ?_); (with_reducible refine oM_gen fun Kv hK=>?_); simp [go_sem]; refine hK _ _ ?_; clear hK; clear Kv))
  have hb : Below w.heap.size w (w.alloc (.cells #[.string ⟨t.toArray⟩] 9)) := (Below.refl _ _).alloc (Nat.le_refl _) _
  exact k _ _ ⟨rfl, .inr ⟨w.heap.size, 1, #[.string ⟨t.toArray⟩], rfl, Nat.le_refl _, heap_alloc_new w _, Nat.le_refl _, by unfold maxLen; omega, rfl, rfl⟩⟩ hb
end
end Go.Proofs
namespace Go.Sh
open Go Go.RowKit
section
variable {P : Program} {w w' : World} {K : Value → World → Prop}
theorem owns_up {B C : Nat} {e : TypeId} {sz : Nat} {v : Value} {n : Nat} {xs : List Value} (h : w.ownsRow B e sz v n xs) (hv : ∀ i, v.ownBlock = some i → C ≤ i) : w.ownsRow C e sz v n xs :=
  ⟨h.1, h.2.imp id (fun ⟨g, cap, cur, a, b, r⟩ => ⟨g, cap, cur, a, hv g (by rw [a]; rfl), r⟩)⟩
theorem append_zero (t T e : TypeId) (i : TypeInfo) (z : Value) (size bytes : Nat) (ht : P.underlying t = some (.slice e)) (hi : P.info? e = some i) (hz : i.zero = some z)
    (hsize : i.size = size) (hby : i.bytes = bytes) (hzs : z.cells.size = size) (hsz : 0 < size)
    {B g : Nat} (hB : B ≤ w.heap.size) (hown : w.ownsRow B e size (.slice (some ⟨g, 0, none⟩) 0 0) 0 [])
    {ad : Option Addr} {m c : Nat} (news : List Value) (hl : news.length = m * size) (had : ad = none → m = 0 ∧ c = 0) (hnews : ∀ a, ad = some a → ∀ j u, news[j]? = some u → w.cell? (a.add j) = some u) (h1 : ∀ u ∈ news, u.oneCell' = true)
    (h63 : m ≤ maxLen) (hbytes : m * bytes ≤ 140737488355328)
    (k : ∀ v' w', w'.ownsRow B e size v' m news → Below w.heap.size w w' → (∀ i, v'.ownBlock = some i → i = g ∨ w.heap.size ≤ i) → K v' w') :
    oM P (.call { callee := .builtin .append, args := #[.tmp 0, .tmp 1], argTypes := #[t, t] }) T [.slice (some ⟨g, 0, none⟩) 0 0, .slice ad m c] K w := by
  rw [oM_append]
  cases ad with
  | none =>
    obtain ⟨rfl, rfl⟩ := had rfl
    have hn : news = [] := List.eq_nil_of_length_eq_zero (by simpa using hl)
    subst hn
    rw [run_append_owned_none (P := P) (w := w) B t T e i size ht hi _ 0 [] hown]
    exact k _ w hown (Below.refl _ _) (fun i h => by cases h; exact .inl rfl)
  | some a =>
    have hown0 := owns_base hown (Nat.zero_le _)
    obtain ⟨v', w', hr, h2, h3, h4⟩ := run_append_more (P := P) (w := w) t T e i z size bytes ht hi hz hsize hby hzs hsz _ 0 [] hown0 a m c news hl (hnews a rfl) h1 (by rw [Nat.zero_add]; exact h63) (by rw [Nat.zero_add]; exact hbytes)
    rw [Nat.zero_add, List.nil_append] at h2
    rw [hr]
    subst hsize
    by_cases hm : m = 0
    · subst hm
      have hn : news = [] := List.eq_nil_of_length_eq_zero (by simpa using hl)
      subst hn
      have e1 : (Builtin.append_ #[t, t] T #[.slice (some ⟨g, 0, none⟩) 0 0, .slice (some a) 0 c]).run P w = .ok (.slice (some ⟨g, 0, none⟩) 0 0) w := by
        simp [Builtin.append_, run_underlying ht, sizeOf, typeInfo, hi, Builtin.lenOf, storeCells, Builtin.firstCells, go_sem]
      rw [e1] at hr
      cases hr
      exact k _ w hown (Below.refl _ _) (fun i h => by cases h; exact .inl rfl)
    · have hr2 := run_append_grow (P := P) (w := w) t T e i z ht hi hz ⟨g, 0, none⟩ 0 0 [] (by simp) (by simp) a m c news hl (hnews a rfl) (by omega) (by simp only [maxLen] at h63; omega) (growslice_fits (by omega) (by rw [hby, Nat.zero_add]; exact hbytes))
      rw [hr] at hr2
      cases hr2
      refine k _ _ (owns_up h2 (fun i h => by cases h; exact hB)) ?_ (fun i h => by cases h; exact .inr (Nat.le_refl _))
      exact ((Below.refl w.heap.size w).drew).alloc (Nat.le_refl _) _
end
end Go.Sh
namespace Go.Proofs
open Go Go.Sh Go.RowKit CodeSpec JnSpec DkSpec
set_option linter.unusedSimpArgs false
set_option linter.unusedVariables false
set_option maxRecDepth 10000
section
variable {w w0 W W1 W' : World} {Kp Kp' : Nat → Prop} {b p g : Nat} {A A' : Ab} {h h' : Dk} {jo : Option Jn} {j j' : Jn} {jv u u' : Value} {all sure all' sure' : List Bs} {K : Value → World → Prop}
def opC (k : Int) (t : Bs) (n : Int) (vk : Value) : List Value := [.int .i64 k, bsV t, .int .i64 n, vk]
theorem op_cells {k n : Int} {t : Bs} {vk : Value} (hh : Holds W g 67 (opC k t n vk)) : W.cell? ⟨g, 0, none⟩ = some (.int .i64 k) ∧ W.cell? ⟨g, 1, none⟩ = some (.string ⟨t.toArray⟩) ∧ W.cell? ⟨g, 2, none⟩ = some (.int .i64 n) ∧ W.cell? ⟨g, 3, none⟩ = some vk :=
  ⟨hh.cell 0 (by simp [opC]), hh.cell 1 (by simp [opC]), hh.cell 2 (by simp [opC]), hh.cell 3 (by simp [opC])⟩
def Zero (B : Nat) (w : World) (v : Value) : Prop := ∃ g, v = .slice (some ⟨g, 0, none⟩) 0 0 ∧ w.ownsRow B 9 1 v 0 []
theorem zero_rows {v u : Value} {ys : List Bs} {B C : Nat} {T : TypeId} (hx : Zero B w v) (hB : B ≤ w.heap.size) (hy : w.ownsRow C 9 1 u ys.length (ys.map Cd.strV)) (hl : ys.length < 2 ^ 40)
    (k : ∀ v' w', w'.ownsRow B 9 1 v' ys.length (ys.map Cd.strV) → Below w.heap.size w w' → K v' w') :
    oM Tryd.prog (.call { callee := .builtin .append, args := #[.tmp 0, .tmp 1], argTypes := #[23, 23] }) T [v, u] K w := by
  obtain ⟨g, rfl, hx⟩ := hx
  have h1 : ∀ u ∈ ys.map Cd.strV, u.oneCell' = true := by
    intro u hu
    obtain ⟨s, _, rfl⟩ := List.mem_map.1 hu
    rfl
  rcases hy.2 with ⟨rfl, h0⟩ | ⟨g, cap, cur, rfl, _⟩
  · have e0 : ys = [] := List.length_eq_zero_iff.1 h0
    subst e0
    exact append_zero 23 T 9 Tryd.t9 (.string ⟨#[]⟩) 1 16 Tryd.underlying23 (by kernel_rfl) (by kernel_rfl) (by kernel_rfl) (by kernel_rfl) rfl (by omega) hB hx [] rfl (fun _ => ⟨rfl, rfl⟩) (fun a ha => by cases ha) (by simp) (by unfold maxLen; simp only [List.length_nil] at *; omega) (by simp only [List.length_nil] at *; omega) (fun v' w' ho hb _ => k v' w' ho hb)
  · refine append_zero 23 T 9 Tryd.t9 (.string ⟨#[]⟩) 1 16 Tryd.underlying23 (by kernel_rfl) (by kernel_rfl) (by kernel_rfl) (by kernel_rfl) rfl (by omega) hB hx (ys.map Cd.strV) (by simp) (fun e => by cases e) (fun a ha i x hu => ?_) h1 (by unfold maxLen; omega) (by omega) (fun v' w' ho hb _ => k v' w' ho hb)
    cases ha
    have hlt := (List.getElem?_eq_some_iff.1 hu).1
    rw [List.length_map] at hlt
    obtain ⟨g', cap', cur', e, _, _, _, _, _, hcell⟩ := owns_cells hy (by omega)
    cases e
    rw [Cd.addr_add, Nat.zero_add]
    exact hcell i x hu
theorem slice00 {T : TypeId} (k : ∀ v w', Zero w.heap.size w' v → Below w.heap.size w w' → K v w') : oM Tryd.prog (.buildSlice 23 0 #[]) T [] K w := by
  repeat (any_goals ((with_reducible refine idO ?_); (with_reducible refine oM_gen fun Kv hK=>?_); simp [go_sem]; refine hK _ _ ?_; clear hK; clear Kv))
  have hb : Below w.heap.size w (w.alloc (.cells #[] 9)) := (Below.refl _ _).alloc (Nat.le_refl _) _
  exact k _ _ ⟨_, rfl, rfl, .inr ⟨w.heap.size, 0, #[], rfl, Nat.le_refl _, heap_alloc_new w _, Nat.le_refl _, by unfold maxLen; omega, rfl, rfl⟩⟩ hb
theorem Zero.base {B C : Nat} {v : Value} (h : Zero B W v) (hc : C ≤ B) : Zero C W v := by
  obtain ⟨g, e, h⟩ := h
  exact ⟨g, e, owns_base h hc⟩
theorem Zero.next {B : Nat} {v : Value} (h : Zero B W v) (hb : Below W.heap.size W W') : Zero B W' v := by
  obtain ⟨g, e, h⟩ := h
  exact ⟨g, e, row_below h hb⟩
theorem held40_ok {l16 : List Value} {k n : Int} {t : Bs} {vk : Value} {M : List Value → World → Prop} (hh : Holds W g 67 (opC k t n vk)) (ra : W.ownsRow w0.heap.size 9 1 (l16.getD 4 undef) all.length (all.map Cd.strV)) (hal : all.length < 2 ^ 30) (hw0 : w0.heap.size ≤ W.heap.size)
    (hM : ∀ av W', Below W.heap.size W W' → W'.ownsRow W.heap.size 9 1 av (all ++ [t]).length ((all ++ [t]).map Cd.strV) → M [av] W') :
    held_9_46 M l16 (ptr g 0) W := by
  unfold held_9_46
  refine ⟨Nx { W with drawn := W.drawn + 1 }, Below.refl _ _, rfl, ?_⟩
  have h3 : Nx W { W with drawn := W.drawn + 1 } := ((Below.refl _ _).drew)
  generalize ({ W with drawn := W.drawn + 1 } : World) = W3 at h3 ⊢
  have hh3 := hh.next h3
  repeat (first | (with_reducible refine pureH_in ?_) | (with_reducible refine oH_nil ?_) | (with_reducible refine gdH_true rfl ?_) | (with_reducible refine gdH_false rfl ?_) | (refine oH_of ⟨_, rfl⟩ (fun W0 hW0 => by (refine oM_gen (fun Kv hK => ?_)); simp [go_sem, op_cells (hh3.next hW0)]; (first | exact hK _ _ ⟨rfl, rfl⟩ | exact ⟨by omega, hK _ _ ⟨rfl, rfl⟩⟩)) ?_))
  refine ⟨Nx, ?_⟩
  have hz3 := h3.size
  have ra3 := row_below ra h3
  refine monoR (fun v w => Zero W3.heap.size w v) (fun v w w1 hS h => h.next hS) (fun w1 h1 => slice00 (fun v w' ho hb => ⟨h1.trans (hb.mono h1.size), hb, ho.base h1.size⟩)) ?_
  refine monoR (fun v w => w.ownsRow W3.heap.size 9 1 v all.length (all.map Cd.strV)) (fun v w w1 hS h => row_below h hS) (fun w1 h1 v hv => ?_) ?_
  · exact zero_rows hv h1.size (row_below ra3 h1) (by omega) (fun v' w' ho hb => ⟨h1.trans (hb.mono h1.size), hb, ho⟩)
  refine monoR (fun v w => w.ownsRow W3.heap.size 9 1 v 1 [Cd.strV t]) (fun v w w1 hS h => row_below h hS) (fun w1 h1 => slice1 t (fun v w' ho hb => ⟨h1.trans (hb.mono h1.size), hb, owns_base ho h1.size⟩)) ?_
  intro w1 h1 v78 _ v80 h80 v83 h83
  refine app_rows (xs := all) (ys := [t]) h80 h83 (by simp; omega) (fun v' w' ho hg hv' => ?_)
  have hz1 := h1.size
  refine hM v' w' (h3.trans (Cd.below_of_grown hg (by omega) (fun i hi => ?_) |> fun hb => (h1.mono hz3).trans hb)) (owns_up ho (fun i hi => ?_))
  · have := (owns_own h80 hi).2.1; omega
  · rcases hv' i hi with e | e
    · have := (owns_own h80 e).2.1; omega
    · omega
theorem pre40_ok {l16 : List Value} {k n e : Int} {t : Bs} {vk : Value} {M : List Value → World → Prop} (hh : Holds W g 67 (opC k t n vk)) (ra : W.ownsRow w0.heap.size 9 1 (l16.getD 4 undef) all.length (all.map Cd.strV)) (hal : all.length < 2 ^ 30) (hw0 : w0.heap.size ≤ W.heap.size)
    (hM1 : (e = 0 ∨ e = 8 ∨ e = 9) → ∀ av W', Below W.heap.size W W' → W'.ownsRow W.heap.size 9 1 av (all ++ [t]).length ((all ++ [t]).map Cd.strV) → M [av] W')
    (hM2 : ¬ (e = 0 ∨ e = 8 ∨ e = 9) → M [l16.getD 4 undef] W) : pre_9_40 l16 (ptr g 0) (.int .i64 e) M W := by
  unfold pre_9_40
  by_cases h0 : e = 0
  · repeat (any_goals (first
    | (with_reducible first|((refine idGd ?_); ((refine idGdD ?_); refine zJ ?_))|((refine idPick ?_); refine yD ?_)|((refine idCond ?_); refine yL ?_))
    | ((with_reducible refine idO ?_); (with_reducible refine oM_gen fun Kv hK=>?_); simp [go_sem]; refine hK _ _ ?_; clear hK; clear Kv)))
    exact held40_ok hh ra hal hw0 (hM1 (.inl h0))
  · repeat (any_goals (first
    | (with_reducible first|refine pureM_in ?_|((refine idGd ?_); ((refine idGdD ?_); refine zI ?_)))
    | ((with_reducible refine idO ?_); (with_reducible refine oM_gen fun Kv hK=>?_); simp [go_sem]; refine hK _ _ ?_; clear hK; clear Kv)))
    refine disky_ok e ?_
    by_cases h8 : e = 8 ∨ e = 9
    · rw [decide_eq_true h8]
      repeat (any_goals (with_reducible first|((refine idPick ?_); refine yE ?_)|((refine idCond ?_); refine yL ?_)))
      exact held40_ok hh ra hal hw0 (hM1 (.inr h8))
    · rw [decide_eq_false h8]
      repeat (any_goals (with_reducible first|((refine idPick ?_); refine yE ?_)|((refine idCond ?_); refine yM ?_)))
      exact hM2 (fun h => h.elim h0 h8)
end
end Go.Proofs
namespace Go.Proofs
open Go Go.Sh Go.RowKit CodeSpec JnSpec DkSpec
set_option linter.unusedSimpArgs false
set_option linter.unusedVariables false
set_option maxRecDepth 10000
section
variable {w w0 W W1 W' : World} {Kp Kp' : Nat → Prop} {b p g i : Nat} {A A' : Ab} {h h' : Dk} {jo : Option Jn} {j j' : Jn} {jv u u' : Value} {all sure all' sure' : List Bs} {K : Value → World → Prop}
theorem row_other {n : Nat} {xs : List Value} {B : Nat} {T : TypeId} {v x : Value} (r : W.ownsRow B T 1 v n xs) (hg : W.grownBy W' x.ownBlock) (hne : ∀ i, x.ownBlock = some i → v.ownBlock ≠ some i) : W'.ownsRow B T 1 v n xs :=
  owns_keep r (fun i hi => hg.block i (owns_own r hi).1 (fun e => hne i e.symm hi))
theorem one_row (w : World) (t : Bs) : Below w.heap.size w (w.alloc (.cells #[.string ⟨t.toArray⟩] 9)) ∧ (w.alloc (.cells #[.string ⟨t.toArray⟩] 9)).ownsRow w.heap.size 9 1 (.slice (some ⟨w.heap.size, 0, none⟩) 1 1) 1 [Cd.strV t] :=
  ⟨(Below.refl _ _).alloc (Nat.le_refl _) _, rfl, .inr ⟨w.heap.size, 1, #[.string ⟨t.toArray⟩], rfl, Nat.le_refl _, heap_alloc_new w _, Nat.le_refl _, by unfold maxLen; omega, rfl, rfl⟩⟩
theorem post40_ok {l16 l41 : List Value} {k n e : Int} {t : Bs} {v61 v65 v71 vk : Value} {r1 r2 : List Bs} {B1 B2 : Nat} {M : List Value → World → Prop} (hM : ∀ vs W, LM w0 b (i + 1) vs W → M vs W) (h6 : 6 ≤ w0.heap.size)
    (L : LS w0 W Kp b A h jo (l16.getD 12 undef) all sure) (hh : Holds W g 67 (opC k t n vk)) (rb : W.ownsRow B1 9 1 v65 r1.length (r1.map Cd.strV)) (rc : W.ownsRow B2 9 1 v71 r2.length (r2.map Cd.strV))
    (hKb : ∀ i, v65.ownBlock = some i → Kp i ∧ w0.heap.size ≤ i ∧ v71.ownBlock ≠ some i ∧ (l41.getD 0 undef).ownBlock ≠ some i ∧ (l16.getD 7 undef).ownBlock ≠ some i) (hl1 : r1.length ≤ 16777216)
    (hcase : (e = 0 ∧ r2 = r1 ++ [t]) ∨ (e ≠ 0 ∧ r2 = r1))
    (ra : W.ownsRow w0.heap.size 9 1 (l41.getD 0 undef) all.length (all.map Cd.strV)) (rs : W.ownsRow w0.heap.size 9 1 (l16.getD 7 undef) sure.length (sure.map Cd.strV)) (hal : all.length ≤ i + 1)
    (hk1 : ∀ k, (l41.getD 0 undef).ownBlock = some k → Kp k) (hk2 : ∀ k, (l16.getD 7 undef).ownBlock = some k → Kp k) :
    post_9_40 K M l16 (ptr g 0) v61 v65 (.int .i64 e) v71 l41 W := by
  unfold post_9_40
  generalize l41.getD 0 undef = av at *
  generalize l16.getD 7 undef = sv at *
  generalize l16.getD 12 undef = jv at *
  rcases hcase with ⟨rfl, rfl⟩ | ⟨he, rfl⟩
  · repeat (any_goals (first
    | (with_reducible first|refine pureM_in ?_|((refine idGd ?_); refine zA ?_))
    | ((with_reducible refine idO ?_); (with_reducible refine oM_gen fun Kv hK=>?_); simp [go_sem, op_cells hh]; refine hK _ _ ?_; clear hK; clear Kv)))
    obtain ⟨hb2, ho2⟩ := one_row W t
    generalize W.alloc (.cells #[.string ⟨t.toArray⟩] 9) = W2 at *
    have L2 := L.below hb2
    refine app_rows (xs := r1) (ys := [t]) (row_below rb hb2) ho2 (by simp; omega) (fun v3 W3 ho3 hg3 hv3 => ?_)
    have rc3 := row_other (row_below rc hb2) hg3 (fun i hi => (hKb i hi).2.2.1)
    have ra3 := row_other (row_below ra hb2) hg3 (fun i hi => (hKb i hi).2.2.2.1)
    have rs3 := row_other (row_below rs hb2) hg3 (fun i hi => (hKb i hi).2.2.2.2)
    have L3 := L2.write (S := fun i => v65.ownBlock = some i) ((Fr.refl _ _).by hg3 (fun i e => .inl e)) h6 (fun i hi => ⟨(hKb i hi).1, (hKb i hi).2.1⟩)
    repeat (any_goals (with_reducible ((refine idGd ?_); refine zA ?_)))
    refine Cd.sameTexts_ok _ _ _ _ (Cd.RowOf.of_owns (owns_zero rc3)) (Cd.RowOf.of_owns ho3) (by simp; omega) (by simp; omega) (fun W4 b4 => ?_)
    simp only [decide_true]
    repeat (any_goals (first
    | (with_reducible first|refine pureM_in ?_|((refine idGd ?_); first|refine zA ?_|refine zB ?_|refine zC ?_)|((refine idPick ?_); first|refine yB ?_|refine yC ?_)|((refine idCond ?_); refine yM ?_))
    | ((with_reducible refine idO ?_); (with_reducible refine oM_gen fun Kv hK=>?_); simp [go_sem]; refine hK _ _ ?_; clear hK; clear Kv)))
    exact hM _ _ ⟨A, h, jo, all, sure, (L3.below b4).less (fun k hk => hk.elim (hk1 k) (hk2 k)), row_below ra3 b4, row_below rs3 b4, hal⟩
  · repeat (any_goals (first
    | (with_reducible first|refine pureM_in ?_|((refine idGd ?_); first|refine zC ?_|((refine idGdD ?_); refine zG ?_)|((refine idGdN ?_); refine zL ?_))|((refine idPick ?_); refine yE ?_))
    | ((with_reducible refine idO ?_); (with_reducible refine oM_gen fun Kv hK=>?_); simp [go_sem]; refine hK _ _ ?_; clear hK; clear Kv)))
    refine Cd.sameTexts_ok _ _ _ _ (Cd.RowOf.of_owns (owns_zero rc)) (Cd.RowOf.of_owns (owns_zero rb)) (by omega) (by omega) (fun W4 b4 => ?_)
    simp only [decide_true]
    repeat (any_goals (first
    | (with_reducible first|((refine idGd ?_); first|refine zC ?_|((refine idGdN ?_); refine zL ?_))|((refine idPick ?_); first|refine yC ?_|refine yF ?_)|((refine idCond ?_); refine yM ?_))
    | ((with_reducible refine idO ?_); (with_reducible refine oM_gen fun Kv hK=>?_); simp [go_sem]; refine hK _ _ ?_; clear hK; clear Kv)))
    exact hM _ _ ⟨A, h, jo, all, sure, (L.below b4).less (fun k hk => hk.elim (hk1 k) (hk2 k)), row_below ra b4, row_below rs b4, hal⟩
end
end Go.Proofs
namespace Go.Proofs
open Go Go.Sh Go.RowKit CodeSpec JnSpec DkSpec
set_option linter.unusedSimpArgs false
set_option linter.unusedVariables false
set_option maxRecDepth 10000
section
variable {w w0 W W1 W' : World} {Kp Kp' : Nat → Prop} {b p g i : Nat} {A A' : Ab} {h h' : Dk} {jo : Option Jn} {j j' : Jn} {jv u u' : Value} {all sure all' sure' : List Bs} {K : Value → World → Prop}
theorem holds_keep {T : TypeId} {cs : List Value} (hh : Holds W g T cs) (hk : ∀ k, Kp k → W'.heap[k]? = W.heap[k]?) (hg : Kp g) : Holds W' g T cs := by
  unfold Holds
  rw [hk g hg]; exact hh
theorem crash_zero (A : Ab) (kp : List Int) (h1 : A.lost = 0) (h2 : A.armed = 0) : (crashA A kp).lost = 0 ∧ (crashA A kp).armed = 0 := by
  unfold crashA
  split
  · exact ⟨h1, h2⟩
  · exact ⟨h1, rfl⟩
def KpG (l16 : List Value) (g : Nat) (k : Nat) : Prop := (l16.getD 4 undef).ownBlock = some k ∨ (l16.getD 7 undef).ownBlock = some k ∨ k = g
theorem app_case {l16 : List Value} {v61 : Value} {n : Int} {t : Bs} {vk : Value} {x0 : Int} {M : List Value → World → Prop} (hM : ∀ vs W, LM w0 b (i + 1) vs W → M vs W) (h6 : 6 ≤ w0.heap.size)
    (L : LS w0 W (KpG l16 g) b A h (some j) (l16.getD 12 undef) all sure) (hh : Holds W g 67 (opC x0 t n vk)) (ht : t.length ≤ 200)
    (ra : W.ownsRow w0.heap.size 9 1 (l16.getD 4 undef) all.length (all.map Cd.strV)) (rs : W.ownsRow w0.heap.size 9 1 (l16.getD 7 undef) sure.length (sure.map Cd.strV)) (hal : all.length ≤ i) (hi : i ≤ 25) :
    callM Tryd.prog 54 #[l16.getD 12 undef] (fun v65_35 w =>
      oM Tryd.prog (.fieldAddr 67 (.tmp 0) 1) 0 [ptr g 0] (fun v67_36 w =>
      oM Tryd.prog (.load 9 (.tmp 0)) 9 [v67_36] (fun v68_37 w =>
      callM Tryd.prog 50 #[(l16.getD 12 undef), v68_37] (fun v69_38 w =>
      callM Tryd.prog 54 #[(l16.getD 12 undef)] (fun v71_39 w =>
      joinM (fun M_40 => (pre_9_40 l16 (ptr g 0) v69_38 M_40 w))
       (fun l_41 u_l_41 w => (post_9_40 K M l16 (ptr g 0) v61 v65_35 v69_38 v71_39 l_41 w))) w) w) w) w) W := by
  obtain ⟨p, u, ejv, jn, hjo⟩ := L.jn
  rw [ejv]
  refine all_ok jn (fun vb W1 rb b1 => ?_)
  obtain ⟨Kq, eKq⟩ : ∃ Kq, Kq = Kp2 (KpG l16 g) vb := ⟨_, rfl⟩
  have L1 := L.row b1 rb
  rw [← eKq] at L1
  have hKg : Kq g := by rw [eKq]; exact .inl (.inr (.inr rfl))
  have hKa : ∀ k, (l16.getD 4 undef).ownBlock = some k → Kq k := fun k e => by rw [eKq]; exact .inl (.inl e)
  have hKs : ∀ k, (l16.getD 7 undef).ownBlock = some k → Kq k := fun k e => by rw [eKq]; exact .inl (.inr (.inl e))
  have hKb : ∀ k, vb.ownBlock = some k → Kq k := fun k e => by rw [eKq]; exact .inr e
  have hh1 := hh.next b1
  have ra1 := row_below ra b1
  have rs1 := row_below rs b1
  have hba : ∀ k, vb.ownBlock = some k → (l16.getD 4 undef).ownBlock ≠ some k ∧ (l16.getD 7 undef).ownBlock ≠ some k ∧ w0.heap.size ≤ k := fun k e => by
    have h1 := (owns_own rb e).2.1
    have hz := L.bl.size
    exact ⟨fun e2 => by have := (owns_own ra e2).1; omega, fun e2 => by have := (owns_own rs e2).1; omega, by omega⟩
  have hjl := jn.len
  repeat (any_goals ((with_reducible refine idO ?_); (with_reducible refine oM_gen fun Kv hK=>?_); simp [go_sem, op_cells hh1]; refine hK _ _ ?_; clear hK; clear Kv))
  obtain ⟨p1, u1, ejv1, jn1, hjo1⟩ := L1.jn
  have hpp : p1 = p := by rw [ejv] at ejv1; cases ejv1; rfl
  subst hpp
  refine append_ok L1.s jn1 (by omega) t (by omega) (fun W2 h2 u2 s2 jn2 t2 => ?_)
  have hsp := append_spec L1.g (by omega) t
  obtain ⟨e, ee⟩ : ∃ e, e = (appendJ A 3 j t).1 := ⟨_, rfl⟩
  obtain ⟨j2, ej2⟩ : ∃ j2, j2 = (appendJ A 3 j t).2.2 := ⟨_, rfl⟩
  obtain ⟨A2, eA2⟩ : ∃ A2, A2 = (appendJ A 3 j t).2.1 := ⟨_, rfl⟩
  rw [← ee, ← ej2, ← eA2] at hsp
  rw [← ee]
  rw [← eA2] at s2
  rw [← ej2] at jn2
  obtain ⟨all2, hg2, hal2, hcase⟩ : ∃ all2, LJ 3 A2 j2 all2 sure ∧ (((e = 0 ∨ e = 8 ∨ e = 9) ∧ all2 = all ++ [t]) ∨ (¬ (e = 0 ∨ e = 8 ∨ e = 9) ∧ all2 = all)) ∧ ((e = 0 ∧ j2.recs = j.recs ++ [t]) ∨ (e ≠ 0 ∧ j2.recs = j.recs)) := by
    rcases hsp with ⟨h1, h2, h3⟩ | ⟨h1, h2, h3⟩ | ⟨h1, h2, h3⟩
    · exact ⟨_, h3, .inl ⟨.inl h1, rfl⟩, .inl ⟨h1, h2⟩⟩
    · exact ⟨_, h3, .inl ⟨.inr (.inl h1), rfl⟩, .inr ⟨by omega, h2⟩⟩
    · exact ⟨_, h3, .inr ⟨by omega, rfl⟩, .inr ⟨by omega, h2⟩⟩
  clear hsp ee ej2 eA2
  obtain ⟨L2, heq2⟩ := L1.jour ejv hjo1 s2 jn2 t2 hg2
  have hh2 := holds_keep hh1 heq2 hKg
  have ra2 := row_keep ra1 heq2 hKa
  have rs2 := row_keep rs1 heq2 hKs
  have rb2 := row_keep rb heq2 hKb
  rw [ejv] at L2
  refine all_ok jn2 (fun vc W3 rc b3 => ?_)
  have L3 := L2.below b3
  have hh3 := hh2.next b3
  have ra3 := row_below ra2 b3
  have rs3 := row_below rs2 b3
  have rb3 := row_below rb2 b3
  have hbc : ∀ k, vb.ownBlock = some k → vc.ownBlock ≠ some k := fun k e e2 => by
    have h1 := (owns_own rb2 e).1
    have := (owns_own rc e2).2.1
    omega
  rw [← ejv] at L3
  have hz3 := L3.bl.size
  have hsz3 : W3.heap.size ≤ W3.heap.size := Nat.le_refl _
  refine ⟨fun l41 W4 => ∃ Kr, LS w0 W4 Kr b A2 h2 (some j2) (l16.getD 12 undef) all2 sure ∧ Below W3.heap.size W3 W4 ∧ W4.ownsRow w0.heap.size 9 1 (l41.getD 0 undef) all2.length (all2.map Cd.strV) ∧ (∀ k, Kq k → Kr k) ∧ (∀ k, (l41.getD 0 undef).ownBlock = some k → Kr k ∧ vb.ownBlock ≠ some k), ?_, ?_⟩
  · refine pre40_ok hh3 ra3 (by omega) hz3 (fun he av W4 b4 ho => ?_) (fun he => ?_)
    · have e2 : all2 = all ++ [t] := hal2.elim (fun h => h.2) (fun h => absurd he h.1)
      subst e2
      refine ⟨Kp2 Kq av, L3.row b4 ho, b4, owns_base ho hz3, fun k hk => .inl hk, fun k hk => ⟨.inr hk, fun e2 => ?_⟩⟩
      have h1 := (owns_own ho hk).2.1
      have := (owns_own rb3 e2).1
      omega
    · have e2 : all2 = all := hal2.elim (fun h => absurd h.1 he) (fun h => h.2)
      subst e2
      exact ⟨Kq, L3, Below.refl _ _, ra3, fun k hk => hk, fun k hk => ⟨hKa k hk, fun e => (hba k e).1 hk⟩⟩
  · rintro l41 _ W4 ⟨Kr, L4, b4, ra4, hKr, hav⟩
    refine post40_ok hM h6 L4 (hh3.next b4) (row_below rb3 b4) (row_below rc b4) (fun k hk => ⟨hKr k (hKb k hk), (hba k hk).2.2, hbc k hk, fun e => (hav k e).2 hk, fun e => (hba k hk).2.1 e⟩) (by omega) hcase ra4 (row_below rs3 b4) ?_ (fun k hk => (hav k hk).1) (fun k hk => hKr k (hKs k hk))
    rcases hal2 with ⟨_, e2⟩ | ⟨_, e2⟩
    · rw [e2, List.length_append]; simp only [List.length_singleton]; omega
    · rw [e2]; omega
end
end Go.Proofs
