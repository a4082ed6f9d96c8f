/- Parts of the proof of the seat's statements (JdkI0, JdkI1, JdkJ, JC, JD, JE, JF, JG, JnSane, JH, JI, JnUp, JT1, JT2, JT2b, JTt, JT4, JT3): lemmas about the given translation and plain laws. No condition of their own. -/
import Derived.Test.YtefjibjojkjiiaaDoorTnc
import Derived.Laws.CopyRow
import Derived.Laws.IdiomCopy
import Derived.KernelRfl
set_option linter.all false
namespace Go.Proofs
open Go Go.Sh Go.RowKit DkSpec
set_option linter.unusedSimpArgs false
set_option linter.unusedVariables false
set_option maxRecDepth 10000
attribute [local go_sem] oM_indexAddr
def crTail (a0 v5_20 v6_32 v39_31 x : Value) (M_16 : List Value → World → Prop) (w : World) : Prop :=
 (stageM w (fun C_52 w => (oH Tryd.prog (Go.Op.fieldAddr 100 (.tmp 0) 1) 0 [v6_32] (upto C_52 0) (fun v61_53 =>
 oH Tryd.prog (Go.Op.load 9 (.tmp 0)) 9 [v61_53] (upto C_52 0) (fun v62_54 =>
 pureH v39_31 (upto C_52 0) (fun v63_55 =>
 oH Tryd.prog (Go.Op.fieldAddr 100 (.tmp 0) 0) 0 [v6_32] (upto C_52 0) (fun v64_56 =>
 oH Tryd.prog (Go.Op.load 9 (.tmp 0)) 9 [v64_56] (upto C_52 0) (fun v65_57 =>
 pureH v39_31 (upto C_52 0) (fun v66_58 =>
 pureH v39_31 (upto C_52 0) (fun v67_59 =>
 oH Tryd.prog (Go.Op.binOp Go.BinOp.add 3 (.tmp 0) (.tmp 1) 3) 3 [v67_59, (.int .i64 64)] (upto C_52 0) (fun v68_60 =>
 oH Tryd.prog (Go.Op.fieldAddr 100 (.tmp 0) 0) 0 [v6_32] (upto C_52 0) (fun v69_61 =>
 oH Tryd.prog (Go.Op.load 9 (.tmp 0)) 9 [v69_61] (upto C_52 0) (fun v70_62 =>
 oH Tryd.prog (Go.Op.call (Go.Call.mk (Go.Callee.builtin Go.Builtin.len) #[(.tmp 0)] #[9])) 3 [v70_62] (upto C_52 0) (fun v71_63 =>
 oH Tryd.prog (Go.Op.call (Go.Call.mk (Go.Callee.builtin Go.Builtin.min) #[(.tmp 0), (.tmp 1)] #[3, 3])) 3 [v68_60, v71_63] (upto C_52 0) (fun v72_64 =>
 oH Tryd.prog (Go.Op.slice 9 (.tmp 0) (some (.tmp 1)) (some (.tmp 2)) none) 9 [v65_57, v66_58, v72_64] (upto C_52 0) (fun v73_65 =>
 callM Tryd.prog 88 #[v62_54, v63_55, v73_65] (fun v74_66 w => C_52 1 w ∧ (
 oM Tryd.prog (Go.Op.fieldAddr 100 (.tmp 0) 1) 0 [v6_32] (fun v75_67 w => C_52 2 w ∧ (
 oM Tryd.prog (Go.Op.store 9 (.tmp 0) (.tmp 1)) 0 [v75_67, v74_66] (fun _ w => C_52 3 w ∧ (
 stageM w (fun C_68 w => (pureH a0 (upto C_68 0) (fun v76_69 =>
 oH Tryd.prog (Go.Op.nilCheck (.tmp 0)) 0 [v76_69] (upto C_68 0) (fun v77_70 =>
 oH Tryd.prog (Go.Op.fieldAddr 92 (.tmp 0) 0) 0 [v77_70] (upto C_68 0) (fun v78_71 =>
 oH Tryd.prog (Go.Op.load 88 (.tmp 0)) 88 [v78_71] (upto C_68 0) (fun v79_72 =>
 oH Tryd.prog (Go.Op.fieldAddr 103 (.tmp 0) 0) 0 [v5_20] (upto C_68 0) (fun v80_73 =>
 oH Tryd.prog (Go.Op.load 3 (.tmp 0)) 3 [v80_73] (upto C_68 0) (fun v81_74 =>
 oH Tryd.prog (Go.Op.load 100 (.tmp 0)) 100 [v6_32] (upto C_68 0) (fun v82_75 =>
 oM Tryd.prog (Go.Op.mapUpdate 88 (.tmp 0) (.tmp 1) (.tmp 2)) 0 [v79_72, v81_74, v82_75] (fun _ w => C_68 1 w ∧ (
 M_16 [x, v39_31] w)) w))))))))))) w)) w)) w))))))))))))))))
def crEnd (a0 : Value) (K : Value → World → Prop) (w : World) : Prop :=
 (oM Tryd.prog (Go.Op.nilCheck (.tmp 0)) 0 [a0] (fun v85_77 w =>
 oM Tryd.prog (Go.Op.fieldAddr 92 (.tmp 0) 0) 0 [v85_77] (fun v86_78 w =>
 oM Tryd.prog (Go.Op.load 88 (.tmp 0)) 88 [v86_78] (fun v87_79 w =>
 oM Tryd.prog (Go.Op.range 88 (.tmp 0)) 0 [v87_79] (fun v88_80 w =>
 loopM [undef] w (fun J_81 m_82 l_83 u_l_83 w0_l_83 => (fun w => (
 oM Tryd.prog (Go.Op.next (.tmp 0) false) 0 [v88_80] (fun v89_84 w =>
 oM Tryd.prog (Go.Op.extract (.tmp 0) 0) 4 [v89_84] (fun v90_85 w =>
 condM v90_85
 (oM Tryd.prog (Go.Op.entry (.tmp 0)) 0 [v88_80] (fun v91_86 w =>
 oM Tryd.prog (Go.Op.extract (.tmp 0) 0) 3 [v91_86] (fun v92_87 w =>
 oM Tryd.prog (Go.Op.extract (.tmp 0) 1) 100 [v91_86] (fun v93_88 w =>
 oM Tryd.prog (Go.Op.alloc 100) 0 [] (fun v9_89 w =>
 oM Tryd.prog (Go.Op.store 100 (.tmp 0) (.tmp 1)) 0 [v9_89, v93_88] (fun _ w =>
 stageM w (fun C_90 w => (pureH a0 (upto C_90 1) (fun v94_91 =>
 oH Tryd.prog (Go.Op.nilCheck (.tmp 0)) 0 [v94_91] (upto C_90 1) (fun v95_92 =>
 oH Tryd.prog (Go.Op.fieldAddr 92 (.tmp 0) 0) 0 [v95_92] (upto C_90 1) (fun v96_93 =>
 oH Tryd.prog (Go.Op.load 88 (.tmp 0)) 88 [v96_93] (upto C_90 1) (fun v97_94 =>
 pureH v92_87 (upto C_90 1) (fun v98_95 =>
 oH Tryd.prog (Go.Op.fieldAddr 100 (.tmp 0) 1) 0 [v9_89] (upto C_90 0) (fun v99_96 =>
 oH Tryd.prog (Go.Op.load 9 (.tmp 0)) 9 [v99_96] (upto C_90 0) (fun v100_97 =>
 oH Tryd.prog (Go.Op.fieldAddr 100 (.tmp 0) 1) 0 [v9_89] (upto C_90 0) (fun v101_98 =>
 oH Tryd.prog (Go.Op.load 9 (.tmp 0)) 9 [v101_98] (upto C_90 0) (fun v102_99 =>
 oM Tryd.prog (Go.Op.build 100 #[(0, (.tmp 0)), (1, (.tmp 1))]) 100 [v100_97, v102_99] (fun v103_100 w => C_90 1 w ∧ (
 oM Tryd.prog (Go.Op.mapUpdate 88 (.tmp 0) (.tmp 1) (.tmp 2)) 0 [v97_94, v98_95, v103_100] (fun _ w => C_90 2 w ∧ (
 J_81 [v92_87] w ∧ m_82 [v92_87] w < m_82 l_83 w0_l_83)) w)) w)))))))))))) w) w) w) w) w)
 (oM Tryd.prog (Go.Op.makeMap 89 none) 89 [] (fun v106_101 w =>
 oM Tryd.prog (Go.Op.nilCheck (.tmp 0)) 0 [a0] (fun v107_102 w =>
 oM Tryd.prog (Go.Op.fieldAddr 92 (.tmp 0) 1) 0 [v107_102] (fun v108_103 w =>
 oM Tryd.prog (Go.Op.store 90 (.tmp 0) (.tmp 1)) 0 [v108_103, (.slice none 0 0)] (fun _ w =>
 oM Tryd.prog (Go.Op.nilCheck (.tmp 0)) 0 [a0] (fun v109_104 w =>
 oM Tryd.prog (Go.Op.fieldAddr 92 (.tmp 0) 2) 0 [v109_104] (fun v110_105 w =>
 oM Tryd.prog (Go.Op.store 89 (.tmp 0) (.tmp 1)) 0 [v110_105, v106_101] (fun _ w =>
 K (.tuple #[]) w) w) w) w) w) w) w) w)) w) w)) w0_l_83)) w) w) w) w)
section
variable {w : World} {b : Nat} {A : Ab} {h : Dk} {K : Value → World → Prop}
set_option maxHeartbeats 1000000 in
theorem crTail_ok {n m : Nat} {p : Int × Int} {x : Value} {M : List Value → World → Prop} (d : IsDk w b A h) (hp : w.heap[n]? = some (.cells #[.int .i64 p.1, .int .i64 p.2] 103 (0, 0))) {cur : Array Value} (hm : w.heap[m]? = some (.cells cur 100 (0, 0))) (hc0 : cur[0]? = some (bsV (A.F p.1).1)) (hc1 : cur[1]? = some (bsV (A.F p.1).2)) (hs : cur.size = 2)
    (hn : ¬ Own b h n) (hm' : ¬ Own b h m) (hm2 : ¬ Rdb h m) (hnm : n ≠ m) (h0 : 0 ≤ p.2 ∧ p.2 < 262144) (hbig : 64 * p.2 < ((A.F p.1).1.length : Int))
    (k : ∀ w', IsDk w' b { A with F := setF A.F p.1 ((A.F p.1).1, putB (A.F p.1).2 (64 * p.2).toNat (DkSpec.sector (A.F p.1).1 p.2)) } h → Fr (fun i => Own b h i ∨ i = m) w w' → M [x, .int .i64 (64 * p.2)] w') : crTail (dkP b) (.pointer (some ⟨n, 0, none⟩)) (.pointer (some ⟨m, 0, none⟩)) (.int .i64 (64 * p.2)) x M w := by
  unfold crTail
  have z0 := cell_of_block hm 0
  have z1 := cell_of_block hm 1
  have hsz := d.wf.sz p.1
  obtain ⟨now, hnow⟩ : ∃ now, now = (A.F p.1).1 := ⟨_, rfl⟩
  obtain ⟨last, hlast⟩ : ∃ last, last = (A.F p.1).2 := ⟨_, rfl⟩
  rw [← hnow, ← hlast] at hsz
  rw [← hnow] at hc0 hbig
  rw [← hlast] at hc1
  rw [hc0] at z0
  rw [hc1] at z1
  obtain ⟨a, ha⟩ : ∃ a : Nat, (a : Int) = 64 * p.2 := ⟨(64 * p.2).toNat, by omega⟩
  have hmin : min ((a : Int) + 64) (now.length : Int) = ((min (a + 64) now.length : Nat) : Int) := by omega
  rw [← ha] at hbig ⊢
  refine ⟨fun sg w' => sg ≤ 0 → w'.heap = w.heap, fun _ => rfl, ?_⟩
  have hwr : IntKind.i64.wrap ((a : Int) + 64) = (a : Int) + 64 := wrapI64 _ (by omega) (by omega)
  repeat (first | (with_reducible refine pureH_in ?_) | (with_reducible refine oH_nil ?_) | (with_reducible refine gdH_true rfl ?_) | (with_reducible refine gdH_false rfl ?_) | (refine oH_of ⟨_, rfl⟩ (fun W0 hW0 => by (obtain ⟨s0, hs0, hC⟩ := hW0); (refine oM_gen (fun Kv hK => ?_)); simp [go_sem, cell_heap (hC (by omega)), z0, z1, hwr, hmin, ba_ext]; (first | exact hK _ _ ⟨rfl, rfl⟩ | exact ⟨by omega, hK _ _ ⟨rfl, rfl⟩⟩)) ?_))
  have hsec : (now.drop a).take (min (a + 64) now.length - a) = DkSpec.sector now p.2 := by
    unfold DkSpec.sector
    rw [← ha, Int.toNat_natCast, List.take_eq_take_iff, List.length_drop]
    omega
  simp only [bsV, Int.toNat_natCast]
  rw [hsec]
  generalize hw2 : ({ w with drawn := w.drawn + 1 } : World) = w2
  have hh : w2.heap = w.heap := by rw [← hw2]
  have f2 : Fr (fun _ => False) w w2 := by rw [← hw2]; exact (Fr.refl _ _).drew
  clear hw2
  have hsl : (DkSpec.sector now p.2).length ≤ 64 := by unfold DkSpec.sector; simp; omega
  refine put_ok' last (DkSpec.sector now p.2) (a : Int) (by omega) (by have := hsl; unfold DkSpec.sector at *; simp at *; omega) hsz.2 (fun w3 f3 => ⟨fun hs => absurd hs (by decide), ?_⟩)
  have f03 := f2.trans f3 (fun _ h => h.elim)
  have d3 := d.fresh f03
  have hml := (Array.getElem?_eq_some_iff.1 hm).1
  have hpl := (Array.getElem?_eq_some_iff.1 hp).1
  have hm3 := (f03.block m hml (fun h => h)).trans hm
  have hp3 := (f03.block n hpl (fun h => h)).trans hp
  have y1 := frozen_of_block hm3 1
  have q1 := cell_of_block hm3 1
  rw [hc1] at q1
  have hm4 := block_set (i := 1) hm3 (bsV (putB last a (DkSpec.sector now p.2)))
  have hp4 := (setCell_heap_ne w3 ⟨m, 1, none⟩ (bsV (putB last a (DkSpec.sector now p.2))) n hnm).trans hp3
  have d4 : IsDk (w3.setCell ⟨m, 1, none⟩ (bsV (putB last a (DkSpec.sector now p.2)))) b A h := d3.keep (fun i hi => setCell_heap_ne _ _ _ _ (fun e => by subst e; exact hi.elim hm' hm2))
  rw [Int.toNat_natCast]
  repeat (any_goals (first
  | (with_reducible refine pureM_in ?_)
  | (with_reducible first|refine pureQ_in ?_|refine gdQ_conv (fun _ => ?_)|refine pickQT ?_|refine pickQF ?_|refine pickQ_pos (by first|assumption|omega) ?_|refine pickQ_neg (by first|assumption|omega) ?_|refine pickQn_pos (by first|assumption|omega) ?_|refine pickQn_neg (by first|assumption|omega) ?_) | ((with_reducible refine oQ_one ?_ ?_); exact ⟨_, rfl⟩) | (with_reducible first|refine And.intro (Eq.refl (α := World) _) ?_|refine forall_one ?_|refine oQ_nil ?_) | (with_reducible refine oQ_of ⟨_, rfl⟩ (fun W0 hW0 => by (refine oM_gen (fun Kv hK => ?_)); simp [go_sem]; (first | exact hK _ _ ⟨rfl, rfl⟩ | exact ⟨by omega, hK _ _ ⟨rfl, rfl⟩⟩)) ?_)
  | (with_reducible refine And.intro (fun hs => absurd hs (by decide)) ?_)
  | (with_reducible first|refine gdtT ?_|refine gdtF ?_|refine gdfF ?_|refine gdfT ?_|refine gdu ?_ _|refine gdt_pos (by first|assumption|omega) ?_|refine gdt_neg (by first|assumption|omega) ?_|refine gdt_split (fun hg => ?_) (fun hg => ?_)|refine gdf_pos (by first|assumption|omega) ?_|refine gdf_neg (by first|assumption|omega) ?_|refine gdf_split (fun hg => ?_) (fun hg => ?_)|refine gdtn_pos (by first|assumption|omega) ?_|refine gdtn_neg (by first|assumption|omega) ?_|refine gdtn_split (fun hg => ?_) (fun hg => ?_)|refine gdfn_pos (by first|assumption|omega) ?_|refine gdfn_neg (by first|assumption|omega) ?_|refine gdfn_split (fun hg => ?_) (fun hg => ?_)|refine gdtbn_pos (by assumption) ?_|refine gdtbn_neg (by assumption) ?_|refine gdfbn_pos (by assumption) ?_|refine gdfbn_neg (by assumption) ?_|refine gdtb_pos (by assumption) ?_|refine gdtb_neg (by assumption) ?_|refine gdtb_split (fun hg => ?_) (fun hg => ?_)|refine gdfb_pos (by assumption) ?_|refine gdfb_neg (by assumption) ?_|refine gdfb_split (fun hg => ?_) (fun hg => ?_)|refine pickT ?_|refine pickF ?_|refine pick_pos (by first|assumption|omega) ?_|refine pick_neg (by first|assumption|omega) ?_|refine pickn_pos (by first|assumption|omega) ?_|refine pickn_neg (by first|assumption|omega) ?_|refine pickbn_pos (by assumption) ?_|refine pickbn_neg (by assumption) ?_|refine pickb_pos (by assumption) ?_|refine pickb_neg (by assumption) ?_|refine condT ?_|refine condF ?_|refine cond_pos (by first|assumption|omega) ?_|refine cond_neg (by first|assumption|omega) ?_|refine condM_dec (fun hg => ?_) (fun hg => ?_)|refine condn_pos (by first|assumption|omega) ?_|refine condn_neg (by first|assumption|omega) ?_|refine condM_ndec (fun hg => ?_) (fun hg => ?_)|refine condbn_pos (by assumption) ?_|refine condbn_neg (by assumption) ?_|refine condbn_split (fun hg => ?_) (fun hg => ?_)|refine condb_pos (by assumption) ?_|refine condb_neg (by assumption) ?_|refine condM_b (fun hg => ?_) (fun hg => ?_))
  | ((with_reducible refine oM_gen (fun Kv hK => ?_)); simp [go_sem, y1, q1]; (try simp (disch := omega) only [wrapI64, wrapU8, wrapU32, wrapU64]); (first | refine hK _ _ ?_ | refine And.intro (by omega) (hK _ _ ?_)); clear hK; clear Kv)))
  have f04 : Fr (fun i => Own b h i ∨ i = m) w (w3.setCell ⟨m, 1, none⟩ (bsV (putB last a (DkSpec.sector now p.2)))) := (f03.mono (fun i _ hi => hi.elim)).set ⟨m, 1, none⟩ _ (.inl (.inr rfl))
  generalize w3.setCell ⟨m, 1, none⟩ (bsV (putB last a (DkSpec.sector now p.2))) = w4 at *
  have c0 := d4.c 0
  simp only [dkCells] at c0
  have e0 := cell_of_block hm4 0
  have e1 := cell_of_block hm4 1
  have g0 := cell_of_block hp4 0
  simp at g0
  have h1lt : 1 < cur.size := by omega
  rw [Array.getElem?_setIfInBounds_ne (by omega), hc0] at e0
  rw [Array.getElem?_setIfInBounds_self_of_lt h1lt] at e1
  refine ⟨fun sg w' => sg ≤ 0 → w'.heap = w4.heap, fun _ => rfl, ?_⟩
  repeat (first | (with_reducible refine pureH_in ?_) | (with_reducible refine oH_nil ?_) | (with_reducible refine gdH_true rfl ?_) | (with_reducible refine gdH_false rfl ?_) | (refine oH_of ⟨_, rfl⟩ (fun W0 hW0 => by (obtain ⟨s0, hs0, hC⟩ := hW0); (refine oM_gen (fun Kv hK => ?_)); simp [go_sem, cell_heap (hC (by omega)), c0, e0, e1, g0]; (first | exact hK _ _ ⟨rfl, rfl⟩ | exact ⟨by omega, hK _ _ ⟨rfl, rfl⟩⟩)) ?_))
  generalize hw5 : ({ w4 with drawn := w4.drawn + 1 } : World) = w5
  have d5 : IsDk w5 b A h := d4.heap (by rw [← hw5])
  have f05 : Fr (fun i => Own b h i ∨ i = m) w w5 := by rw [← hw5]; exact f04.drew
  clear hw5
  have hpl2 := putB_length last a (DkSpec.sector now p.2)
  obtain ⟨w6, hr6, d6, t6⟩ := d5.setFile p.1 (now, putB last a (DkSpec.sector now p.2)) ⟨hsz.1, by
    show (putB last a (DkSpec.sector now p.2)).length ≤ _
    rw [hpl2]
    split
    · exact hsz.2
    · have hs2 : (DkSpec.sector now p.2).length ≤ now.length - a := by rw [← hsec]; simp; omega
      omega⟩
  simp only at hr6
  repeat (any_goals (first
  | (with_reducible refine pureM_in ?_)
  | (with_reducible first|refine pureQ_in ?_|refine gdQ_conv (fun _ => ?_)|refine pickQT ?_|refine pickQF ?_|refine pickQ_pos (by first|assumption|omega) ?_|refine pickQ_neg (by first|assumption|omega) ?_|refine pickQn_pos (by first|assumption|omega) ?_|refine pickQn_neg (by first|assumption|omega) ?_) | ((with_reducible refine oQ_one ?_ ?_); exact ⟨_, rfl⟩) | (with_reducible first|refine And.intro (Eq.refl (α := World) _) ?_|refine forall_one ?_|refine oQ_nil ?_) | (with_reducible refine oQ_of ⟨_, rfl⟩ (fun W0 hW0 => by (refine oM_gen (fun Kv hK => ?_)); simp [go_sem]; (first | exact hK _ _ ⟨rfl, rfl⟩ | exact ⟨by omega, hK _ _ ⟨rfl, rfl⟩⟩)) ?_)
  | (with_reducible refine And.intro (fun hs => absurd hs (by decide)) ?_)
  | (with_reducible first|refine gdtT ?_|refine gdtF ?_|refine gdfF ?_|refine gdfT ?_|refine gdu ?_ _|refine gdt_pos (by first|assumption|omega) ?_|refine gdt_neg (by first|assumption|omega) ?_|refine gdt_split (fun hg => ?_) (fun hg => ?_)|refine gdf_pos (by first|assumption|omega) ?_|refine gdf_neg (by first|assumption|omega) ?_|refine gdf_split (fun hg => ?_) (fun hg => ?_)|refine gdtn_pos (by first|assumption|omega) ?_|refine gdtn_neg (by first|assumption|omega) ?_|refine gdtn_split (fun hg => ?_) (fun hg => ?_)|refine gdfn_pos (by first|assumption|omega) ?_|refine gdfn_neg (by first|assumption|omega) ?_|refine gdfn_split (fun hg => ?_) (fun hg => ?_)|refine gdtbn_pos (by assumption) ?_|refine gdtbn_neg (by assumption) ?_|refine gdfbn_pos (by assumption) ?_|refine gdfbn_neg (by assumption) ?_|refine gdtb_pos (by assumption) ?_|refine gdtb_neg (by assumption) ?_|refine gdtb_split (fun hg => ?_) (fun hg => ?_)|refine gdfb_pos (by assumption) ?_|refine gdfb_neg (by assumption) ?_|refine gdfb_split (fun hg => ?_) (fun hg => ?_)|refine pickT ?_|refine pickF ?_|refine pick_pos (by first|assumption|omega) ?_|refine pick_neg (by first|assumption|omega) ?_|refine pickn_pos (by first|assumption|omega) ?_|refine pickn_neg (by first|assumption|omega) ?_|refine pickbn_pos (by assumption) ?_|refine pickbn_neg (by assumption) ?_|refine pickb_pos (by assumption) ?_|refine pickb_neg (by assumption) ?_|refine condT ?_|refine condF ?_|refine cond_pos (by first|assumption|omega) ?_|refine cond_neg (by first|assumption|omega) ?_|refine condM_dec (fun hg => ?_) (fun hg => ?_)|refine condn_pos (by first|assumption|omega) ?_|refine condn_neg (by first|assumption|omega) ?_|refine condM_ndec (fun hg => ?_) (fun hg => ?_)|refine condbn_pos (by assumption) ?_|refine condbn_neg (by assumption) ?_|refine condbn_split (fun hg => ?_) (fun hg => ?_)|refine condb_pos (by assumption) ?_|refine condb_neg (by assumption) ?_|refine condM_b (fun hg => ?_) (fun hg => ?_))
  | ((with_reducible refine oM_gen (fun Kv hK => ?_)); simp [go_sem, hr6]; (try simp (disch := omega) only [wrapI64, wrapU8, wrapU32, wrapU64]); (first | refine hK _ _ ?_ | refine And.intro (by omega) (hK _ _ ?_)); clear hK; clear Kv)))
  rw [← hnow, ← hlast, ← ha, Int.toNat_natCast] at k
  exact k w6 d6 (f05.trans t6.fr (fun i hi => .inl (.inl hi)))
def durL (F : Int → Bs × Bs) (l : List (Int × Value)) (done : List Int) : List (Int × Value) := l.map (fun y => (y.1, if y.1 ∈ done then flV ((F y.1).2, (F y.1).2) else y.2))
theorem durL_nil (F : Int → Bs × Bs) (l : List (Int × Value)) : durL F l [] = l := by
  unfold durL
  have : (fun y : Int × Value => (y.1, if y.1 ∈ ([] : List Int) then flV ((F y.1).2, (F y.1).2) else y.2)) = id := by funext y; simp
  rw [this, List.map_id]
theorem durL_keys (F : Int → Bs × Bs) (l : List (Int × Value)) (done : List Int) : (durL F l done).map (·.1) = l.map (·.1) := by
  unfold durL; rw [List.map_map]; rfl
theorem durL_put (F : Int → Bs × Bs) (l : List (Int × Value)) (done : List Int) (k : Int) (hk : k ∈ l.map (·.1)) : putA (durL F l done) k (flV ((F k).2, (F k).2)) = durL F l (k :: done) := by
  unfold putA
  rw [if_pos ((lookA_isSome _ _).2 (by rw [durL_keys]; exact hk))]
  unfold durL
  rw [List.map_map]
  apply List.map_congr_left
  intro y _
  simp only [Function.comp]
  by_cases hy : y.1 = k
  · simp [hy]
  · simp [hy]
theorem durL_look (F : Int → Bs × Bs) (l : List (Int × Value)) (done : List Int) (k : Int) : lookA (durL F l done) k = (lookA l k).map (fun v => if k ∈ done then flV ((F k).2, (F k).2) else v) := by
  unfold durL
  exact lookA_mapVal (fun k v => if k ∈ done then flV ((F k).2, (F k).2) else v) l k
theorem flV_inj {x y : Bs × Bs} (h : flV x = flV y) : x = y := by
  obtain ⟨a, b⟩ := x
  obtain ⟨c, d⟩ := y
  simp [flV, bsV] at h
  simp [h.1, h.2]
theorem crEnd_ok (d : IsDk w b A h) (k : ∀ w' h', IsDk w' b { A with F := fun f => ((A.F f).2, (A.F f).2), queue := [] } h' → Step w b h w' h' → K (.tuple #[]) w') : crEnd (dkP b) K w := by
  unfold crEnd
  have c0 := d.c 0
  simp only [dkCells] at c0
  obtain ⟨l0, m0, hl0⟩ := d.files
  have hnd0 : (l0.map (·.1)).Nodup := by obtain ⟨es, c, h1, h2, h3, _⟩ := m0; exact h3
  obtain ⟨o, hr, R⟩ := run_range (P := Tryd.prog) (t := 88) (kt := 3) (et := 100) (by kernel_rfl) m0
  have f0 : Fr (fun i => i = h.fm) w (w.alloc o) := (Fr.refl _ _).alloc _
  repeat (any_goals (first
  | (with_reducible refine pureM_in ?_)
  | (with_reducible first|refine pureQ_in ?_|refine gdQ_conv (fun _ => ?_)|refine pickQT ?_|refine pickQF ?_|refine pickQ_pos (by first|assumption|omega) ?_|refine pickQ_neg (by first|assumption|omega) ?_|refine pickQn_pos (by first|assumption|omega) ?_|refine pickQn_neg (by first|assumption|omega) ?_) | ((with_reducible refine oQ_one ?_ ?_); exact ⟨_, rfl⟩) | (with_reducible first|refine And.intro (Eq.refl (α := World) _) ?_|refine forall_one ?_|refine oQ_nil ?_) | (with_reducible refine oQ_of ⟨_, rfl⟩ (fun W0 hW0 => by (refine oM_gen (fun Kv hK => ?_)); simp [go_sem]; (first | exact hK _ _ ⟨rfl, rfl⟩ | exact ⟨by omega, hK _ _ ⟨rfl, rfl⟩⟩)) ?_)
  | (with_reducible first|refine gdtT ?_|refine gdtF ?_|refine gdfF ?_|refine gdfT ?_|refine gdu ?_ _|refine gdt_pos (by first|assumption|omega) ?_|refine gdt_neg (by first|assumption|omega) ?_|refine gdt_split (fun hg => ?_) (fun hg => ?_)|refine gdf_pos (by first|assumption|omega) ?_|refine gdf_neg (by first|assumption|omega) ?_|refine gdf_split (fun hg => ?_) (fun hg => ?_)|refine gdtn_pos (by first|assumption|omega) ?_|refine gdtn_neg (by first|assumption|omega) ?_|refine gdtn_split (fun hg => ?_) (fun hg => ?_)|refine gdfn_pos (by first|assumption|omega) ?_|refine gdfn_neg (by first|assumption|omega) ?_|refine gdfn_split (fun hg => ?_) (fun hg => ?_)|refine gdtbn_pos (by assumption) ?_|refine gdtbn_neg (by assumption) ?_|refine gdfbn_pos (by assumption) ?_|refine gdfbn_neg (by assumption) ?_|refine gdtb_pos (by assumption) ?_|refine gdtb_neg (by assumption) ?_|refine gdtb_split (fun hg => ?_) (fun hg => ?_)|refine gdfb_pos (by assumption) ?_|refine gdfb_neg (by assumption) ?_|refine gdfb_split (fun hg => ?_) (fun hg => ?_)|refine pickT ?_|refine pickF ?_|refine pick_pos (by first|assumption|omega) ?_|refine pick_neg (by first|assumption|omega) ?_|refine pickn_pos (by first|assumption|omega) ?_|refine pickn_neg (by first|assumption|omega) ?_|refine pickbn_pos (by assumption) ?_|refine pickbn_neg (by assumption) ?_|refine pickb_pos (by assumption) ?_|refine pickb_neg (by assumption) ?_|refine condT ?_|refine condF ?_|refine cond_pos (by first|assumption|omega) ?_|refine cond_neg (by first|assumption|omega) ?_|refine condM_dec (fun hg => ?_) (fun hg => ?_)|refine condn_pos (by first|assumption|omega) ?_|refine condn_neg (by first|assumption|omega) ?_|refine condM_ndec (fun hg => ?_) (fun hg => ?_)|refine condbn_pos (by assumption) ?_|refine condbn_neg (by assumption) ?_|refine condbn_split (fun hg => ?_) (fun hg => ?_)|refine condb_pos (by assumption) ?_|refine condb_neg (by assumption) ?_|refine condM_b (fun hg => ?_) (fun hg => ?_))
  | ((with_reducible refine oM_gen (fun Kv hK => ?_)); simp [go_sem, c0, hr]; (try simp (disch := omega) only [wrapI64, wrapU8, wrapU32, wrapU64]); (first | refine hK _ _ ?_ | refine And.intro (by omega) (hK _ _ ?_)); clear hK; clear Kv)))
  generalize w.alloc o = w0 at *
  have hfm : h.fm < w.heap.size := m0.lt
  have hbl : b < w.heap.size := d.lt (.inl (.inl rfl))
  refine ⟨fun l w' => ∃ u done, l = [u] ∧ done.Nodup ∧ Ranged i64V w' w.heap.size h.fm (durL A.F l0 done) (l0.map (·.1)) done ∧ Fr (fun i => i = h.fm) w w', fun _ w' => (l0.map (·.1)).length + 1 - (w'.iterSeen w.heap.size).size, ⟨_, [], rfl, List.nodup_nil, by rw [durL_nil]; exact R, f0⟩, ?_⟩
  rintro l u w1 ⟨u1, done, rfl, hnd, R1, f1⟩
  have hlen := nodup_sub_len done _ hnd R1.sub
  have hseen := R1.seen
  rcases run_next (P := Tryd.prog) (ty := 0) R1 with ⟨hall, hn⟩ | ⟨y, hy, hyd, w2, hn, R2, g2, z2⟩
  · have m1 := R1.map
    have hF : ∀ f, (lookA (durL A.F l0 done) f).getD (flV ([], [])) = flV ((A.F f).2, (A.F f).2) := by
      intro f
      rw [durL_look]
      have h2 := hl0 f
      cases hlk : lookA l0 f with
      | none =>
        rw [hlk] at h2
        have := flV_inj h2
        simp only [Option.map_none, Option.getD_none]
        rw [← this]
      | some v =>
        have hfk : f ∈ l0.map (·.1) := (lookA_isSome _ _).1 (by rw [hlk]; rfl)
        rw [← durL_keys A.F l0 done] at hfk
        obtain ⟨y, hy, rfl⟩ := List.mem_map.1 hfk
        simp only [Option.map_some, Option.getD_some, if_pos (hall y hy)]
    have b1 := (f1.block b hbl d.bfm).trans d.blk
    repeat (any_goals (first
    | (with_reducible refine pureM_in ?_)
    | (with_reducible first|refine pureQ_in ?_|refine gdQ_conv (fun _ => ?_)|refine pickQT ?_|refine pickQF ?_|refine pickQ_pos (by first|assumption|omega) ?_|refine pickQ_neg (by first|assumption|omega) ?_|refine pickQn_pos (by first|assumption|omega) ?_|refine pickQn_neg (by first|assumption|omega) ?_) | ((with_reducible refine oQ_one ?_ ?_); exact ⟨_, rfl⟩) | (with_reducible first|refine And.intro (Eq.refl (α := World) _) ?_|refine forall_one ?_|refine oQ_nil ?_) | (with_reducible refine oQ_of ⟨_, rfl⟩ (fun W0 hW0 => by (refine oM_gen (fun Kv hK => ?_)); simp [go_sem]; (first | exact hK _ _ ⟨rfl, rfl⟩ | exact ⟨by omega, hK _ _ ⟨rfl, rfl⟩⟩)) ?_)
    | (with_reducible first|refine gdtT ?_|refine gdtF ?_|refine gdfF ?_|refine gdfT ?_|refine gdu ?_ _|refine gdt_pos (by first|assumption|omega) ?_|refine gdt_neg (by first|assumption|omega) ?_|refine gdt_split (fun hg => ?_) (fun hg => ?_)|refine gdf_pos (by first|assumption|omega) ?_|refine gdf_neg (by first|assumption|omega) ?_|refine gdf_split (fun hg => ?_) (fun hg => ?_)|refine gdtn_pos (by first|assumption|omega) ?_|refine gdtn_neg (by first|assumption|omega) ?_|refine gdtn_split (fun hg => ?_) (fun hg => ?_)|refine gdfn_pos (by first|assumption|omega) ?_|refine gdfn_neg (by first|assumption|omega) ?_|refine gdfn_split (fun hg => ?_) (fun hg => ?_)|refine gdtbn_pos (by assumption) ?_|refine gdtbn_neg (by assumption) ?_|refine gdfbn_pos (by assumption) ?_|refine gdfbn_neg (by assumption) ?_|refine gdtb_pos (by assumption) ?_|refine gdtb_neg (by assumption) ?_|refine gdtb_split (fun hg => ?_) (fun hg => ?_)|refine gdfb_pos (by assumption) ?_|refine gdfb_neg (by assumption) ?_|refine gdfb_split (fun hg => ?_) (fun hg => ?_)|refine pickT ?_|refine pickF ?_|refine pick_pos (by first|assumption|omega) ?_|refine pick_neg (by first|assumption|omega) ?_|refine pickn_pos (by first|assumption|omega) ?_|refine pickn_neg (by first|assumption|omega) ?_|refine pickbn_pos (by assumption) ?_|refine pickbn_neg (by assumption) ?_|refine pickb_pos (by assumption) ?_|refine pickb_neg (by assumption) ?_|refine condT ?_|refine condF ?_|refine cond_pos (by first|assumption|omega) ?_|refine cond_neg (by first|assumption|omega) ?_|refine condM_dec (fun hg => ?_) (fun hg => ?_)|refine condn_pos (by first|assumption|omega) ?_|refine condn_neg (by first|assumption|omega) ?_|refine condM_ndec (fun hg => ?_) (fun hg => ?_)|refine condbn_pos (by assumption) ?_|refine condbn_neg (by assumption) ?_|refine condbn_split (fun hg => ?_) (fun hg => ?_)|refine condb_pos (by assumption) ?_|refine condb_neg (by assumption) ?_|refine condM_b (fun hg => ?_) (fun hg => ?_))
    | ((with_reducible refine oM_gen (fun Kv hK => ?_)); simp [go_sem, hn]; (try simp (disch := omega) only [wrapI64, wrapU8, wrapU32, wrapU64]); (first | refine hK _ _ ?_ | refine And.intro (by omega) (hK _ _ ?_)); clear hK; clear Kv)))
    have pf : Fr (fun _ => False) w1 (w1.alloc (.map #[] 0)) := (Fr.refl _ _).alloc _
    have pm : MapIs secV (w1.alloc (.map #[] 0)) w1.heap.size [] := mapIs_new w1
    have pz := alloc_size w1 (.map #[] 0)
    have hz1 := f1.size
    have hb2 := (pf.block b (by omega) (fun h => h)).trans b1
    have m2 := m1.alloc (.map #[] 0)
    have f2 := f1.trans pf (fun _ h => h.elim)
    generalize w1.alloc (.map #[] 0) = w2 at *
    have y1 := frozen_of_block hb2 1
    have e1 := cell_of_block hb2 1
    have hb3 := block_set (i := 1) hb2 (.slice none 0 0)
    have y2 := frozen_of_block hb3 2
    have e2 := cell_of_block hb3 2
    have hb4 := block_set (i := 2) hb3 (.map (some w1.heap.size))
    simp [dkCells] at e1 e2
    repeat (any_goals (first
    | (with_reducible refine pureM_in ?_)
    | (with_reducible first|refine pureQ_in ?_|refine gdQ_conv (fun _ => ?_)|refine pickQT ?_|refine pickQF ?_|refine pickQ_pos (by first|assumption|omega) ?_|refine pickQ_neg (by first|assumption|omega) ?_|refine pickQn_pos (by first|assumption|omega) ?_|refine pickQn_neg (by first|assumption|omega) ?_) | ((with_reducible refine oQ_one ?_ ?_); exact ⟨_, rfl⟩) | (with_reducible first|refine And.intro (Eq.refl (α := World) _) ?_|refine forall_one ?_|refine oQ_nil ?_) | (with_reducible refine oQ_of ⟨_, rfl⟩ (fun W0 hW0 => by (refine oM_gen (fun Kv hK => ?_)); simp [go_sem]; (first | exact hK _ _ ⟨rfl, rfl⟩ | exact ⟨by omega, hK _ _ ⟨rfl, rfl⟩⟩)) ?_)
    | (with_reducible first|refine gdtT ?_|refine gdtF ?_|refine gdfF ?_|refine gdfT ?_|refine gdu ?_ _|refine gdt_pos (by first|assumption|omega) ?_|refine gdt_neg (by first|assumption|omega) ?_|refine gdt_split (fun hg => ?_) (fun hg => ?_)|refine gdf_pos (by first|assumption|omega) ?_|refine gdf_neg (by first|assumption|omega) ?_|refine gdf_split (fun hg => ?_) (fun hg => ?_)|refine gdtn_pos (by first|assumption|omega) ?_|refine gdtn_neg (by first|assumption|omega) ?_|refine gdtn_split (fun hg => ?_) (fun hg => ?_)|refine gdfn_pos (by first|assumption|omega) ?_|refine gdfn_neg (by first|assumption|omega) ?_|refine gdfn_split (fun hg => ?_) (fun hg => ?_)|refine gdtbn_pos (by assumption) ?_|refine gdtbn_neg (by assumption) ?_|refine gdfbn_pos (by assumption) ?_|refine gdfbn_neg (by assumption) ?_|refine gdtb_pos (by assumption) ?_|refine gdtb_neg (by assumption) ?_|refine gdtb_split (fun hg => ?_) (fun hg => ?_)|refine gdfb_pos (by assumption) ?_|refine gdfb_neg (by assumption) ?_|refine gdfb_split (fun hg => ?_) (fun hg => ?_)|refine pickT ?_|refine pickF ?_|refine pick_pos (by first|assumption|omega) ?_|refine pick_neg (by first|assumption|omega) ?_|refine pickn_pos (by first|assumption|omega) ?_|refine pickn_neg (by first|assumption|omega) ?_|refine pickbn_pos (by assumption) ?_|refine pickbn_neg (by assumption) ?_|refine pickb_pos (by assumption) ?_|refine pickb_neg (by assumption) ?_|refine condT ?_|refine condF ?_|refine cond_pos (by first|assumption|omega) ?_|refine cond_neg (by first|assumption|omega) ?_|refine condM_dec (fun hg => ?_) (fun hg => ?_)|refine condn_pos (by first|assumption|omega) ?_|refine condn_neg (by first|assumption|omega) ?_|refine condM_ndec (fun hg => ?_) (fun hg => ?_)|refine condbn_pos (by assumption) ?_|refine condbn_neg (by assumption) ?_|refine condbn_split (fun hg => ?_) (fun hg => ?_)|refine condb_pos (by assumption) ?_|refine condb_neg (by assumption) ?_|refine condM_b (fun hg => ?_) (fun hg => ?_))
    | ((with_reducible refine oM_gen (fun Kv hK => ?_)); simp [go_sem, y1, e1, y2, e2]; (try simp (disch := omega) only [wrapI64, wrapU8, wrapU32, wrapU64]); (first | refine hK _ _ ?_ | refine And.intro (by omega) (hK _ _ ?_)); clear hK; clear Kv)))
    have f4 := (f2.mono (S' := Own b h) (fun i _ hi => .inr (.inl hi))).set ⟨b, 1, none⟩ (.slice none 0 0) (.inl (.inl rfl)) |>.set ⟨b, 2, none⟩ (.map (some w1.heap.size)) (.inl (.inl rfl))
    have k4 : ∀ i, i ≠ b → ((w2.setCell ⟨b, 1, none⟩ (.slice none 0 0)).setCell ⟨b, 2, none⟩ (.map (some w1.heap.size))).heap[i]? = w2.heap[i]? := fun i hi => by rw [setCell_heap_ne _ _ _ _ hi, setCell_heap_ne _ _ _ _ hi]
    generalize (w2.setCell ⟨b, 1, none⟩ (.slice none 0 0)).setCell ⟨b, 2, none⟩ (.map (some w1.heap.size)) = w4 at *
    have hfne : h.fm ≠ w1.heap.size := by omega
    refine k w4 { h with q := .slice none 0 0, sm := w1.heap.size } ⟨?_, ⟨_, m2.of_block (k4 _ d.bfm.symm), hF⟩, ⟨[], pm.of_block (k4 _ (by omega)), fun p => by simp [lookA_nil]⟩, ?_, ?_, hfne, ?_⟩ ⟨f4, ?_, fun i hi => .inl hi⟩
    · rw [hb4]; rfl
    · exact World.ownsRow_nil _ _ _ _
    · refine owns_keep d.kep (fun i hi => ?_)
      have h1 := d.kne hi
      have h2 := d.lt (.inr hi)
      rw [k4 i h1.1]
      exact f2.block i h2 h1.2.1
    · exact ⟨d.wf.l0, d.wf.l1, d.wf.a0, d.wf.a1, List.nodup_nil, fun p hp => absurd hp (by simp), fun f => ⟨(d.wf.sz f).2, (d.wf.sz f).2⟩, d.wf.kr, d.wf.kl⟩
    · rintro i (rfl | rfl | rfl | hi)
      · exact .inl (.inl rfl)
      · exact .inl (.inr (.inl rfl))
      · exact .inr hz1
      · cases hi
  · have he := run_entry (P := Tryd.prog) R2 hy
    have f2 : Fr (fun i => i = h.fm) w w2 := f1.by g2 (fun i hi => by cases hi; exact .inr (Nat.le_refl _))
    have hyk : y.1 ∈ l0.map (·.1) := by
      have := List.mem_map_of_mem (f := (·.1)) hy
      rw [durL_keys] at this
      exact this
    have hyv : y.2 = flV (A.F y.1) := by
      have h1 := lookA_mem (durL A.F l0 done) (by rw [durL_keys]; exact hnd0) y hy
      rw [durL_look] at h1
      have h2 := hl0 y.1
      cases hlk : lookA l0 y.1 with
      | none => rw [hlk] at h1; cases h1
      | some v =>
        rw [hlk] at h1 h2
        simp only [Option.map_some, if_neg hyd, Option.some.injEq] at h1
        simp only [Option.getD_some] at h2
        rw [← h1, h2]
    rw [hyv] at he
    simp only [i64V] at hn he
    repeat (any_goals (first
    | (with_reducible refine pureM_in ?_)
    | (with_reducible first|refine pureQ_in ?_|refine gdQ_conv (fun _ => ?_)|refine pickQT ?_|refine pickQF ?_|refine pickQ_pos (by first|assumption|omega) ?_|refine pickQ_neg (by first|assumption|omega) ?_|refine pickQn_pos (by first|assumption|omega) ?_|refine pickQn_neg (by first|assumption|omega) ?_) | ((with_reducible refine oQ_one ?_ ?_); exact ⟨_, rfl⟩) | (with_reducible first|refine And.intro (Eq.refl (α := World) _) ?_|refine forall_one ?_|refine oQ_nil ?_) | (with_reducible refine oQ_of ⟨_, rfl⟩ (fun W0 hW0 => by (refine oM_gen (fun Kv hK => ?_)); simp [go_sem]; (first | exact hK _ _ ⟨rfl, rfl⟩ | exact ⟨by omega, hK _ _ ⟨rfl, rfl⟩⟩)) ?_)
    | (with_reducible first|refine gdtT ?_|refine gdtF ?_|refine gdfF ?_|refine gdfT ?_|refine gdu ?_ _|refine gdt_pos (by first|assumption|omega) ?_|refine gdt_neg (by first|assumption|omega) ?_|refine gdt_split (fun hg => ?_) (fun hg => ?_)|refine gdf_pos (by first|assumption|omega) ?_|refine gdf_neg (by first|assumption|omega) ?_|refine gdf_split (fun hg => ?_) (fun hg => ?_)|refine gdtn_pos (by first|assumption|omega) ?_|refine gdtn_neg (by first|assumption|omega) ?_|refine gdtn_split (fun hg => ?_) (fun hg => ?_)|refine gdfn_pos (by first|assumption|omega) ?_|refine gdfn_neg (by first|assumption|omega) ?_|refine gdfn_split (fun hg => ?_) (fun hg => ?_)|refine gdtbn_pos (by assumption) ?_|refine gdtbn_neg (by assumption) ?_|refine gdfbn_pos (by assumption) ?_|refine gdfbn_neg (by assumption) ?_|refine gdtb_pos (by assumption) ?_|refine gdtb_neg (by assumption) ?_|refine gdtb_split (fun hg => ?_) (fun hg => ?_)|refine gdfb_pos (by assumption) ?_|refine gdfb_neg (by assumption) ?_|refine gdfb_split (fun hg => ?_) (fun hg => ?_)|refine pickT ?_|refine pickF ?_|refine pick_pos (by first|assumption|omega) ?_|refine pick_neg (by first|assumption|omega) ?_|refine pickn_pos (by first|assumption|omega) ?_|refine pickn_neg (by first|assumption|omega) ?_|refine pickbn_pos (by assumption) ?_|refine pickbn_neg (by assumption) ?_|refine pickb_pos (by assumption) ?_|refine pickb_neg (by assumption) ?_|refine condT ?_|refine condF ?_|refine cond_pos (by first|assumption|omega) ?_|refine cond_neg (by first|assumption|omega) ?_|refine condM_dec (fun hg => ?_) (fun hg => ?_)|refine condn_pos (by first|assumption|omega) ?_|refine condn_neg (by first|assumption|omega) ?_|refine condM_ndec (fun hg => ?_) (fun hg => ?_)|refine condbn_pos (by assumption) ?_|refine condbn_neg (by assumption) ?_|refine condbn_split (fun hg => ?_) (fun hg => ?_)|refine condb_pos (by assumption) ?_|refine condb_neg (by assumption) ?_|refine condM_b (fun hg => ?_) (fun hg => ?_))
    | ((with_reducible refine oM_gen (fun Kv hK => ?_)); simp [go_sem, hn, he]; (try simp (disch := omega) only [wrapI64, wrapU8, wrapU32, wrapU64]); (first | refine hK _ _ ?_ | refine And.intro (by omega) (hK _ _ ?_)); clear hK; clear Kv)))
    have pf : Fr (fun _ => False) w2 (w2.alloc (.cells #[.string ⟨#[]⟩, .string ⟨#[]⟩] 100 (0, 0))) := (Fr.refl _ _).alloc _
    have p0 := heap_alloc_new w2 (.cells #[.string ⟨#[]⟩, .string ⟨#[]⟩] 100 (0, 0))
    have pz := alloc_size w2 (.cells #[.string ⟨#[]⟩, .string ⟨#[]⟩] 100 (0, 0))
    generalize w2.alloc (.cells #[.string ⟨#[]⟩, .string ⟨#[]⟩] 100 (0, 0)) = w3 at *
    refine store2_at (fun w => by kernel_rfl) rfl rfl p0 (by simp) (fun w4 cur4 g4 n4 s4 _ a4 b4 => ?_)
    have f24 : Fr (fun _ => False) w2 w4 := pf.by g4 (fun i hi => by cases hi; exact .inr (Nat.le_refl _))
    have R4 := R2.of_blocks (f24.block h.fm R2.lt.1 (fun h => h)) (f24.block w.heap.size R2.lt.2.1 (fun h => h))
    have fr4 : Fr (fun i => i = h.fm) w w4 := f2.trans f24 (fun _ h => h.elim)
    have b4' : w4.heap[b]? = some (.cells (dkCells A h) 92 (0, 0)) := (fr4.block b hbl d.bfm).trans d.blk
    have e0 := cell_of_block b4' 0
    simp only [dkCells] at e0
    have z0 := cell_of_block n4 1
    rw [Nat.zero_add] at b4
    rw [b4] at z0
    refine ⟨fun sg w' => sg ≤ 1 → w'.heap = w4.heap, fun _ => rfl, ?_⟩
    repeat (first | (with_reducible refine pureH_in ?_) | (with_reducible refine oH_nil ?_) | (with_reducible refine gdH_true rfl ?_) | (with_reducible refine gdH_false rfl ?_) | (refine oH_of ⟨_, rfl⟩ (fun W0 hW0 => by (obtain ⟨s0, hs0, hC⟩ := hW0); (refine oM_gen (fun Kv hK => ?_)); simp [go_sem, cell_heap (hC (by omega)), e0, z0]; (first | exact hK _ _ ⟨rfl, rfl⟩ | exact ⟨by omega, hK _ _ ⟨rfl, rfl⟩⟩)) ?_))
    generalize hw5 : ({ w4 with drawn := w4.drawn + 1 } : World) = w5
    have hh5 : w5.heap = w4.heap := by rw [← hw5]
    have f5 : Fr (fun i => i = h.fm) w w5 := by rw [← hw5]; exact fr4.drew
    have R5 := R4.of_blocks (w' := w5) (by rw [hh5]) (by rw [hh5])
    clear hw5
    obtain ⟨w6, hu, R6, g6, z6⟩ := run_updateR (P := Tryd.prog) (t := 88) (et := 100) keyI (by kernel_rfl) R5 y.1 (flV ((A.F y.1).2, (A.F y.1).2)) (by rw [durL_keys]; exact hyk)
    rw [durL_put _ _ _ _ hyk] at R6
    simp only [i64V, flV, bsV] at hu
    repeat (any_goals (first
    | (with_reducible refine pureM_in ?_)
    | (with_reducible first|refine pureQ_in ?_|refine gdQ_conv (fun _ => ?_)|refine pickQT ?_|refine pickQF ?_|refine pickQ_pos (by first|assumption|omega) ?_|refine pickQ_neg (by first|assumption|omega) ?_|refine pickQn_pos (by first|assumption|omega) ?_|refine pickQn_neg (by first|assumption|omega) ?_) | ((with_reducible refine oQ_one ?_ ?_); exact ⟨_, rfl⟩) | (with_reducible first|refine And.intro (Eq.refl (α := World) _) ?_|refine forall_one ?_|refine oQ_nil ?_) | (with_reducible refine oQ_of ⟨_, rfl⟩ (fun W0 hW0 => by (refine oM_gen (fun Kv hK => ?_)); simp [go_sem]; (first | exact hK _ _ ⟨rfl, rfl⟩ | exact ⟨by omega, hK _ _ ⟨rfl, rfl⟩⟩)) ?_)
    | (with_reducible refine And.intro (fun _ => hh5) ?_) | (with_reducible refine And.intro (fun hs => absurd hs (by decide)) ?_)
    | (with_reducible first|refine gdtT ?_|refine gdtF ?_|refine gdfF ?_|refine gdfT ?_|refine gdu ?_ _|refine gdt_pos (by first|assumption|omega) ?_|refine gdt_neg (by first|assumption|omega) ?_|refine gdt_split (fun hg => ?_) (fun hg => ?_)|refine gdf_pos (by first|assumption|omega) ?_|refine gdf_neg (by first|assumption|omega) ?_|refine gdf_split (fun hg => ?_) (fun hg => ?_)|refine gdtn_pos (by first|assumption|omega) ?_|refine gdtn_neg (by first|assumption|omega) ?_|refine gdtn_split (fun hg => ?_) (fun hg => ?_)|refine gdfn_pos (by first|assumption|omega) ?_|refine gdfn_neg (by first|assumption|omega) ?_|refine gdfn_split (fun hg => ?_) (fun hg => ?_)|refine gdtbn_pos (by assumption) ?_|refine gdtbn_neg (by assumption) ?_|refine gdfbn_pos (by assumption) ?_|refine gdfbn_neg (by assumption) ?_|refine gdtb_pos (by assumption) ?_|refine gdtb_neg (by assumption) ?_|refine gdtb_split (fun hg => ?_) (fun hg => ?_)|refine gdfb_pos (by assumption) ?_|refine gdfb_neg (by assumption) ?_|refine gdfb_split (fun hg => ?_) (fun hg => ?_)|refine pickT ?_|refine pickF ?_|refine pick_pos (by first|assumption|omega) ?_|refine pick_neg (by first|assumption|omega) ?_|refine pickn_pos (by first|assumption|omega) ?_|refine pickn_neg (by first|assumption|omega) ?_|refine pickbn_pos (by assumption) ?_|refine pickbn_neg (by assumption) ?_|refine pickb_pos (by assumption) ?_|refine pickb_neg (by assumption) ?_|refine condT ?_|refine condF ?_|refine cond_pos (by first|assumption|omega) ?_|refine cond_neg (by first|assumption|omega) ?_|refine condM_dec (fun hg => ?_) (fun hg => ?_)|refine condn_pos (by first|assumption|omega) ?_|refine condn_neg (by first|assumption|omega) ?_|refine condM_ndec (fun hg => ?_) (fun hg => ?_)|refine condbn_pos (by assumption) ?_|refine condbn_neg (by assumption) ?_|refine condbn_split (fun hg => ?_) (fun hg => ?_)|refine condb_pos (by assumption) ?_|refine condb_neg (by assumption) ?_|refine condM_b (fun hg => ?_) (fun hg => ?_))
    | ((with_reducible refine oM_gen (fun Kv hK => ?_)); simp [go_sem, hu]; (try simp (disch := omega) only [wrapI64, wrapU8, wrapU32, wrapU64]); (first | refine hK _ _ ?_ | refine And.intro (by omega) (hK _ _ ?_)); clear hK; clear Kv)))
    refine ⟨⟨_, y.1 :: done, rfl, List.nodup_cons.2 ⟨hyd, hnd⟩, R6, f5.by g6 (fun i hi => by cases hi; exact .inl rfl)⟩, ?_⟩
    have h6 := R6.seen
    have h7 := nodup_sub_len (y.1 :: done) _ (List.nodup_cons.2 ⟨hyd, hnd⟩) R6.sub
    simp only [List.length_cons] at h6 h7
    show _ - _ < _ - _
    omega
end
end Go.Proofs
namespace Go.Proofs
open Go Go.Sh Go.RowKit DkSpec
set_option linter.unusedSimpArgs false
set_option linter.unusedVariables false
set_option maxRecDepth 10000
attribute [local go_sem] oM_indexAddr
def crMid (a0 a1 v5_20 v6_32 v39_31 x : Value) (M_16 : List Value → World → Prop) (w : World) : Prop :=
 (oM Tryd.prog (Go.Op.call (Go.Call.mk (Go.Callee.builtin Go.Builtin.len) #[(.tmp 0)] #[22])) 3 [a1] (fun v41_34 w =>
 oM Tryd.prog (Go.Op.binOp Go.BinOp.eql 3 (.tmp 0) (.const (.int .i64 0)) 3) 4 [v41_34] (fun v42_35 w =>
 gdM (gd v42_35 false) (pureM a1) (fun v44_36 w =>
 gdM (gd v42_35 false) (pureM x) (fun v45_37 w =>
 gdM (gd v42_35 false) (pureM a1) (fun v46_38 w =>
 gdM (gd v42_35 false) (oM Tryd.prog (Go.Op.call (Go.Call.mk (Go.Callee.builtin Go.Builtin.len) #[(.tmp 0)] #[22])) 3 [v46_38]) (fun v47_39 w =>
 gdM (gd v42_35 false) (oM Tryd.prog (Go.Op.binOp Go.BinOp.rem 3 (.tmp 0) (.tmp 1) 3) 3 [v45_37, v47_39]) (fun v48_40 w =>
 gdM (gd v42_35 false) (oM Tryd.prog (Go.Op.indexAddr 22 (.tmp 0) (.tmp 1)) 0 [v44_36, v48_40]) (fun v49_41 w =>
 gdM (gd v42_35 false) (oM Tryd.prog (Go.Op.load 3 (.tmp 0)) 3 [v49_41]) (fun v50_42 w =>
 gdM (gd v42_35 false) (oM Tryd.prog (Go.Op.binOp Go.BinOp.and 3 (.tmp 0) (.tmp 1) 3) 3 [v50_42, (.int .i64 1)]) (fun v51_43 w =>
 gdM (gd v42_35 false) (oM Tryd.prog (Go.Op.binOp Go.BinOp.eql 3 (.tmp 0) (.const (.int .i64 0)) 3) 4 [v51_43]) (fun v52_44 w =>
 oM Tryd.prog (Go.Op.pick (.tmp 0) (.tmp 1) (.tmp 2)) 4 [v42_35, (.bool true), v52_44] (fun v53_45 w =>
 gdM (gd v53_45 false) (pureM v39_31) (fun v55_46 w =>
 gdM (gd v53_45 false) (oM Tryd.prog (Go.Op.fieldAddr 100 (.tmp 0) 0) 0 [v6_32]) (fun v56_47 w =>
 gdM (gd v53_45 false) (oM Tryd.prog (Go.Op.load 9 (.tmp 0)) 9 [v56_47]) (fun v57_48 w =>
 gdM (gd v53_45 false) (oM Tryd.prog (Go.Op.call (Go.Call.mk (Go.Callee.builtin Go.Builtin.len) #[(.tmp 0)] #[9])) 3 [v57_48]) (fun v58_49 w =>
 gdM (gd v53_45 false) (oM Tryd.prog (Go.Op.binOp Go.BinOp.geq 3 (.tmp 0) (.tmp 1) 3) 4 [v55_46, v58_49]) (fun v59_50 w =>
 oM Tryd.prog (Go.Op.pick (.tmp 0) (.tmp 1) (.tmp 2)) 4 [v53_45, (.bool true), v59_50] (fun v60_51 w =>
 condM v60_51
 (M_16 [x, v39_31] w)
 (stageM w (fun C_52 w => (oH Tryd.prog (Go.Op.fieldAddr 100 (.tmp 0) 1) 0 [v6_32] (upto C_52 0) (fun v61_53 =>
 oH Tryd.prog (Go.Op.load 9 (.tmp 0)) 9 [v61_53] (upto C_52 0) (fun v62_54 =>
 pureH v39_31 (upto C_52 0) (fun v63_55 =>
 oH Tryd.prog (Go.Op.fieldAddr 100 (.tmp 0) 0) 0 [v6_32] (upto C_52 0) (fun v64_56 =>
 oH Tryd.prog (Go.Op.load 9 (.tmp 0)) 9 [v64_56] (upto C_52 0) (fun v65_57 =>
 pureH v39_31 (upto C_52 0) (fun v66_58 =>
 pureH v39_31 (upto C_52 0) (fun v67_59 =>
 oH Tryd.prog (Go.Op.binOp Go.BinOp.add 3 (.tmp 0) (.tmp 1) 3) 3 [v67_59, (.int .i64 64)] (upto C_52 0) (fun v68_60 =>
 oH Tryd.prog (Go.Op.fieldAddr 100 (.tmp 0) 0) 0 [v6_32] (upto C_52 0) (fun v69_61 =>
 oH Tryd.prog (Go.Op.load 9 (.tmp 0)) 9 [v69_61] (upto C_52 0) (fun v70_62 =>
 oH Tryd.prog (Go.Op.call (Go.Call.mk (Go.Callee.builtin Go.Builtin.len) #[(.tmp 0)] #[9])) 3 [v70_62] (upto C_52 0) (fun v71_63 =>
 oH Tryd.prog (Go.Op.call (Go.Call.mk (Go.Callee.builtin Go.Builtin.min) #[(.tmp 0), (.tmp 1)] #[3, 3])) 3 [v68_60, v71_63] (upto C_52 0) (fun v72_64 =>
 oH Tryd.prog (Go.Op.slice 9 (.tmp 0) (some (.tmp 1)) (some (.tmp 2)) none) 9 [v65_57, v66_58, v72_64] (upto C_52 0) (fun v73_65 =>
 callM Tryd.prog 88 #[v62_54, v63_55, v73_65] (fun v74_66 w => C_52 1 w ∧ (
 oM Tryd.prog (Go.Op.fieldAddr 100 (.tmp 0) 1) 0 [v6_32] (fun v75_67 w => C_52 2 w ∧ (
 oM Tryd.prog (Go.Op.store 9 (.tmp 0) (.tmp 1)) 0 [v75_67, v74_66] (fun _ w => C_52 3 w ∧ (
 stageM w (fun C_68 w => (pureH a0 (upto C_68 0) (fun v76_69 =>
 oH Tryd.prog (Go.Op.nilCheck (.tmp 0)) 0 [v76_69] (upto C_68 0) (fun v77_70 =>
 oH Tryd.prog (Go.Op.fieldAddr 92 (.tmp 0) 0) 0 [v77_70] (upto C_68 0) (fun v78_71 =>
 oH Tryd.prog (Go.Op.load 88 (.tmp 0)) 88 [v78_71] (upto C_68 0) (fun v79_72 =>
 oH Tryd.prog (Go.Op.fieldAddr 103 (.tmp 0) 0) 0 [v5_20] (upto C_68 0) (fun v80_73 =>
 oH Tryd.prog (Go.Op.load 3 (.tmp 0)) 3 [v80_73] (upto C_68 0) (fun v81_74 =>
 oH Tryd.prog (Go.Op.load 100 (.tmp 0)) 100 [v6_32] (upto C_68 0) (fun v82_75 =>
 oM Tryd.prog (Go.Op.mapUpdate 88 (.tmp 0) (.tmp 1) (.tmp 2)) 0 [v79_72, v81_74, v82_75] (fun _ w => C_68 1 w ∧ (
 M_16 [x, v39_31] w)) w))))))))))) w)) w)) w))))))))))))))))) w) w) w) w) w) w) w) w) w) w) w) w) w) w) w) w) w) w)
def crBody (a0 a1 v23_10 x : Value) (M_16 : List Value → World → Prop) (w : World) : Prop :=
 (oM Tryd.prog (Go.Op.indexAddr 90 (.tmp 0) (.tmp 1)) 0 [v23_10, x] (fun v28_18 w =>
 oM Tryd.prog (Go.Op.load 103 (.tmp 0)) 103 [v28_18] (fun v29_19 w =>
 oM Tryd.prog (Go.Op.alloc 103) 0 [] (fun v5_20 w =>
 oM Tryd.prog (Go.Op.store 103 (.tmp 0) (.tmp 1)) 0 [v5_20, v29_19] (fun _ w =>
 stageM w (fun C_21 w => (pureH a0 (upto C_21 1) (fun v30_22 =>
 oH Tryd.prog (Go.Op.nilCheck (.tmp 0)) 0 [v30_22] (upto C_21 1) (fun v31_23 =>
 oH Tryd.prog (Go.Op.fieldAddr 92 (.tmp 0) 0) 0 [v31_23] (upto C_21 1) (fun v32_24 =>
 oH Tryd.prog (Go.Op.load 88 (.tmp 0)) 88 [v32_24] (upto C_21 1) (fun v33_25 =>
 oH Tryd.prog (Go.Op.fieldAddr 103 (.tmp 0) 0) 0 [v5_20] (upto C_21 1) (fun v34_26 =>
 oH Tryd.prog (Go.Op.load 3 (.tmp 0)) 3 [v34_26] (upto C_21 1) (fun v35_27 =>
 oH Tryd.prog (Go.Op.lookup 88 (.tmp 0) (.tmp 1) false) 100 [v33_25, v35_27] (upto C_21 1) (fun v36_28 =>
 oH Tryd.prog (Go.Op.fieldAddr 103 (.tmp 0) 1) 0 [v5_20] (upto C_21 2) (fun v37_29 =>
 oH Tryd.prog (Go.Op.load 3 (.tmp 0)) 3 [v37_29] (upto C_21 2) (fun v38_30 =>
 oH Tryd.prog (Go.Op.binOp Go.BinOp.mul 3 (.tmp 0) (.tmp 1) 3) 3 [v38_30, (.int .i64 64)] (upto C_21 2) (fun v39_31 =>
 oM Tryd.prog (Go.Op.alloc 100) 0 [] (fun v6_32 w => C_21 1 w ∧ (
 oM Tryd.prog (Go.Op.store 100 (.tmp 0) (.tmp 1)) 0 [v6_32, v36_28] (fun _ w => C_21 2 w ∧ (
 C_21 3 w ∧ (oM Tryd.prog (Go.Op.call (Go.Call.mk (Go.Callee.builtin Go.Builtin.len) #[(.tmp 0)] #[22])) 3 [a1] (fun v41_34 w =>
 oM Tryd.prog (Go.Op.binOp Go.BinOp.eql 3 (.tmp 0) (.const (.int .i64 0)) 3) 4 [v41_34] (fun v42_35 w =>
 gdM (gd v42_35 false) (pureM a1) (fun v44_36 w =>
 gdM (gd v42_35 false) (pureM x) (fun v45_37 w =>
 gdM (gd v42_35 false) (pureM a1) (fun v46_38 w =>
 gdM (gd v42_35 false) (oM Tryd.prog (Go.Op.call (Go.Call.mk (Go.Callee.builtin Go.Builtin.len) #[(.tmp 0)] #[22])) 3 [v46_38]) (fun v47_39 w =>
 gdM (gd v42_35 false) (oM Tryd.prog (Go.Op.binOp Go.BinOp.rem 3 (.tmp 0) (.tmp 1) 3) 3 [v45_37, v47_39]) (fun v48_40 w =>
 gdM (gd v42_35 false) (oM Tryd.prog (Go.Op.indexAddr 22 (.tmp 0) (.tmp 1)) 0 [v44_36, v48_40]) (fun v49_41 w =>
 gdM (gd v42_35 false) (oM Tryd.prog (Go.Op.load 3 (.tmp 0)) 3 [v49_41]) (fun v50_42 w =>
 gdM (gd v42_35 false) (oM Tryd.prog (Go.Op.binOp Go.BinOp.and 3 (.tmp 0) (.tmp 1) 3) 3 [v50_42, (.int .i64 1)]) (fun v51_43 w =>
 gdM (gd v42_35 false) (oM Tryd.prog (Go.Op.binOp Go.BinOp.eql 3 (.tmp 0) (.const (.int .i64 0)) 3) 4 [v51_43]) (fun v52_44 w =>
 oM Tryd.prog (Go.Op.pick (.tmp 0) (.tmp 1) (.tmp 2)) 4 [v42_35, (.bool true), v52_44] (fun v53_45 w =>
 gdM (gd v53_45 false) (pureM v39_31) (fun v55_46 w =>
 gdM (gd v53_45 false) (oM Tryd.prog (Go.Op.fieldAddr 100 (.tmp 0) 0) 0 [v6_32]) (fun v56_47 w =>
 gdM (gd v53_45 false) (oM Tryd.prog (Go.Op.load 9 (.tmp 0)) 9 [v56_47]) (fun v57_48 w =>
 gdM (gd v53_45 false) (oM Tryd.prog (Go.Op.call (Go.Call.mk (Go.Callee.builtin Go.Builtin.len) #[(.tmp 0)] #[9])) 3 [v57_48]) (fun v58_49 w =>
 gdM (gd v53_45 false) (oM Tryd.prog (Go.Op.binOp Go.BinOp.geq 3 (.tmp 0) (.tmp 1) 3) 4 [v55_46, v58_49]) (fun v59_50 w =>
 oM Tryd.prog (Go.Op.pick (.tmp 0) (.tmp 1) (.tmp 2)) 4 [v53_45, (.bool true), v59_50] (fun v60_51 w =>
 condM v60_51
 (M_16 [x, v39_31] w)
 (stageM w (fun C_52 w => (oH Tryd.prog (Go.Op.fieldAddr 100 (.tmp 0) 1) 0 [v6_32] (upto C_52 0) (fun v61_53 =>
 oH Tryd.prog (Go.Op.load 9 (.tmp 0)) 9 [v61_53] (upto C_52 0) (fun v62_54 =>
 pureH v39_31 (upto C_52 0) (fun v63_55 =>
 oH Tryd.prog (Go.Op.fieldAddr 100 (.tmp 0) 0) 0 [v6_32] (upto C_52 0) (fun v64_56 =>
 oH Tryd.prog (Go.Op.load 9 (.tmp 0)) 9 [v64_56] (upto C_52 0) (fun v65_57 =>
 pureH v39_31 (upto C_52 0) (fun v66_58 =>
 pureH v39_31 (upto C_52 0) (fun v67_59 =>
 oH Tryd.prog (Go.Op.binOp Go.BinOp.add 3 (.tmp 0) (.tmp 1) 3) 3 [v67_59, (.int .i64 64)] (upto C_52 0) (fun v68_60 =>
 oH Tryd.prog (Go.Op.fieldAddr 100 (.tmp 0) 0) 0 [v6_32] (upto C_52 0) (fun v69_61 =>
 oH Tryd.prog (Go.Op.load 9 (.tmp 0)) 9 [v69_61] (upto C_52 0) (fun v70_62 =>
 oH Tryd.prog (Go.Op.call (Go.Call.mk (Go.Callee.builtin Go.Builtin.len) #[(.tmp 0)] #[9])) 3 [v70_62] (upto C_52 0) (fun v71_63 =>
 oH Tryd.prog (Go.Op.call (Go.Call.mk (Go.Callee.builtin Go.Builtin.min) #[(.tmp 0), (.tmp 1)] #[3, 3])) 3 [v68_60, v71_63] (upto C_52 0) (fun v72_64 =>
 oH Tryd.prog (Go.Op.slice 9 (.tmp 0) (some (.tmp 1)) (some (.tmp 2)) none) 9 [v65_57, v66_58, v72_64] (upto C_52 0) (fun v73_65 =>
 callM Tryd.prog 88 #[v62_54, v63_55, v73_65] (fun v74_66 w => C_52 1 w ∧ (
 oM Tryd.prog (Go.Op.fieldAddr 100 (.tmp 0) 1) 0 [v6_32] (fun v75_67 w => C_52 2 w ∧ (
 oM Tryd.prog (Go.Op.store 9 (.tmp 0) (.tmp 1)) 0 [v75_67, v74_66] (fun _ w => C_52 3 w ∧ (
 stageM w (fun C_68 w => (pureH a0 (upto C_68 0) (fun v76_69 =>
 oH Tryd.prog (Go.Op.nilCheck (.tmp 0)) 0 [v76_69] (upto C_68 0) (fun v77_70 =>
 oH Tryd.prog (Go.Op.fieldAddr 92 (.tmp 0) 0) 0 [v77_70] (upto C_68 0) (fun v78_71 =>
 oH Tryd.prog (Go.Op.load 88 (.tmp 0)) 88 [v78_71] (upto C_68 0) (fun v79_72 =>
 oH Tryd.prog (Go.Op.fieldAddr 103 (.tmp 0) 0) 0 [v5_20] (upto C_68 0) (fun v80_73 =>
 oH Tryd.prog (Go.Op.load 3 (.tmp 0)) 3 [v80_73] (upto C_68 0) (fun v81_74 =>
 oH Tryd.prog (Go.Op.load 100 (.tmp 0)) 100 [v6_32] (upto C_68 0) (fun v82_75 =>
 oM Tryd.prog (Go.Op.mapUpdate 88 (.tmp 0) (.tmp 1) (.tmp 2)) 0 [v79_72, v81_74, v82_75] (fun _ w => C_68 1 w ∧ (
 M_16 [x, v39_31] w)) w))))))))))) w)) w)) w))))))))))))))))) w) w) w) w) w) w) w) w) w) w) w) w) w) w) w) w) w) w))) w)) w))))))))))))) w) w) w) w)
theorem survAll_snoc (keep : List Int) (q : List (Int × Int)) (p : Int × Int) (F : Int → Bs × Bs) (i : Nat) : survAll keep F i (q ++ [p]) = survF keep (survAll keep F i q) (i + q.length) p := by
  induction q generalizing F i with
  | nil => rfl
  | cons r q ih =>
    show survAll keep (survF keep F i r) (i + 1) (q ++ [p]) = survF keep (survAll keep (survF keep F i r) (i + 1) q) (i + (q.length + 1)) p
    rw [ih]
    congr 1
    omega
section
variable {w : World} {b : Nat} {A : Ab} {h : Dk} {K : Value → World → Prop}
theorem IsDk.reF (d : IsDk w b A h) {F : Int → Bs × Bs} (e : F = A.F) : IsDk w b { A with F := F } h := by
  rw [e]; exact d
set_option maxHeartbeats 1000000 in
theorem crMid_ok {n m i : Nat} {p : Int × Int} {M : List Value → World → Prop} (d : IsDk w b A h) (hp : w.heap[n]? = some (.cells #[.int .i64 p.1, .int .i64 p.2] 103 (0, 0))) {cur : Array Value} (hm : w.heap[m]? = some (.cells cur 100 (0, 0))) (hc0 : cur[0]? = some (bsV (A.F p.1).1)) (hc1 : cur[1]? = some (bsV (A.F p.1).2)) (hs : cur.size = 2)
    (hn : ¬ Own b h n) (hm' : ¬ Own b h m) (hm2 : ¬ Rdb h m) (hnm : n ≠ m) (h0 : 0 ≤ p.2 ∧ p.2 < 262144) (hi : i < 2 ^ 40) {kv : Value} {kl : List Int} (hkr : RowR intC 1 w kv kl) (hkl : kl.length < 2 ^ 62)
    (k : ∀ w', IsDk w' b { A with F := survF kl A.F i p } h → Fr (fun j => Own b h j ∨ j = m) w w' → M [.int .i64 (i : Int), .int .i64 (64 * p.2)] w') : crMid (dkP b) kv (.pointer (some ⟨n, 0, none⟩)) (.pointer (some ⟨m, 0, none⟩)) (.int .i64 (64 * p.2)) (.int .i64 (i : Int)) M w := by
  unfold crMid
  have z7 := cell_of_block hm 0
  have z71 := cell_of_block hm 1
  have hsz := d.wf.sz p.1
  have hlen : (A.F p.1).1.length ≤ 16777216 := hsz.1
  rw [hc0] at z7
  rw [hc1] at z71
  obtain ⟨ad, c, rfl, h0', hc⟩ := id hkr
  by_cases hkn : kl = []
  · subst hkn
    have hsv : survF [] A.F i p = A.F := by unfold survF; rw [if_pos (.inl rfl)]
    repeat (any_goals (first
    | (with_reducible refine pureM_in ?_)
    | (with_reducible first|refine pureQ_in ?_|refine gdQ_conv (fun _ => ?_)|refine pickQT ?_|refine pickQF ?_|refine pickQ_pos (by first|assumption|omega) ?_|refine pickQ_neg (by first|assumption|omega) ?_|refine pickQn_pos (by first|assumption|omega) ?_|refine pickQn_neg (by first|assumption|omega) ?_) | ((with_reducible refine oQ_one ?_ ?_); exact ⟨_, rfl⟩) | (with_reducible first|refine And.intro (Eq.refl (α := World) _) ?_|refine forall_one ?_|refine oQ_nil ?_) | (with_reducible refine oQ_of ⟨_, rfl⟩ (fun W0 hW0 => by (refine oM_gen (fun Kv hK => ?_)); simp [go_sem]; (first | exact hK _ _ ⟨rfl, rfl⟩ | exact ⟨by omega, hK _ _ ⟨rfl, rfl⟩⟩)) ?_)
    | (with_reducible first|refine gdtT ?_|refine gdtF ?_|refine gdfF ?_|refine gdfT ?_|refine gdu ?_ _|refine gdt_pos (by first|assumption|omega) ?_|refine gdt_neg (by first|assumption|omega) ?_|refine gdt_split (fun hg => ?_) (fun hg => ?_)|refine gdf_pos (by first|assumption|omega) ?_|refine gdf_neg (by first|assumption|omega) ?_|refine gdf_split (fun hg => ?_) (fun hg => ?_)|refine gdtn_pos (by first|assumption|omega) ?_|refine gdtn_neg (by first|assumption|omega) ?_|refine gdtn_split (fun hg => ?_) (fun hg => ?_)|refine gdfn_pos (by first|assumption|omega) ?_|refine gdfn_neg (by first|assumption|omega) ?_|refine gdfn_split (fun hg => ?_) (fun hg => ?_)|refine gdtbn_pos (by assumption) ?_|refine gdtbn_neg (by assumption) ?_|refine gdfbn_pos (by assumption) ?_|refine gdfbn_neg (by assumption) ?_|refine gdtb_pos (by assumption) ?_|refine gdtb_neg (by assumption) ?_|refine gdtb_split (fun hg => ?_) (fun hg => ?_)|refine gdfb_pos (by assumption) ?_|refine gdfb_neg (by assumption) ?_|refine gdfb_split (fun hg => ?_) (fun hg => ?_)|refine pickT ?_|refine pickF ?_|refine pick_pos (by first|assumption|omega) ?_|refine pick_neg (by first|assumption|omega) ?_|refine pickn_pos (by first|assumption|omega) ?_|refine pickn_neg (by first|assumption|omega) ?_|refine pickbn_pos (by assumption) ?_|refine pickbn_neg (by assumption) ?_|refine pickb_pos (by assumption) ?_|refine pickb_neg (by assumption) ?_|refine condT ?_|refine condF ?_|refine cond_pos (by first|assumption|omega) ?_|refine cond_neg (by first|assumption|omega) ?_|refine condM_dec (fun hg => ?_) (fun hg => ?_)|refine condn_pos (by first|assumption|omega) ?_|refine condn_neg (by first|assumption|omega) ?_|refine condM_ndec (fun hg => ?_) (fun hg => ?_)|refine condbn_pos (by assumption) ?_|refine condbn_neg (by assumption) ?_|refine condbn_split (fun hg => ?_) (fun hg => ?_)|refine condb_pos (by assumption) ?_|refine condb_neg (by assumption) ?_|refine condM_b (fun hg => ?_) (fun hg => ?_))
    | ((with_reducible refine oM_gen (fun Kv hK => ?_)); simp [go_sem]; (try simp (disch := omega) only [wrapI64, wrapU8, wrapU32, wrapU64]); (first | refine hK _ _ ?_ | refine And.intro (by omega) (hK _ _ ?_)); clear hK; clear Kv)))
    exact k w (d.reF hsv) (Fr.refl _ _)
  · rcases hc with hc | ⟨kb, ko, rfl, hkb, hc⟩
    · exact absurd hc hkn
    have hkpos : 0 < kl.length := List.length_pos_iff.2 hkn
    have hmod : ((i : Int)).tmod (kl.length : Int) = ((i % kl.length : Nat) : Int) := by
      rw [tmodN _ _ (by omega)]; rfl
    have hml : i % kl.length < kl.length := Nat.mod_lt _ hkpos
    have hki := hc (i % kl.length) (i64V kl[i % kl.length]) (by rw [show flat intC kl = kl.map i64V from flat_one i64V kl]; simp [hml])
    unfold i64V at hki
    have hixk : (Instr.indexAt 22 (.slice (some ⟨kb, ko, none⟩) kl.length c) (.int .i64 ((i % kl.length : Nat) : Int))).run Tryd.prog w = .ok (.pointer (some ⟨kb, ko + i % kl.length, none⟩)) w := by
      rw [run_indexAt_slice (h := by kernel_rfl), if_pos (by omega)]
      have hs : (sizeOf (Tryd.prog.elem 22)).run Tryd.prog w = .ok 1 w := by kernel_rfl
      rw [hs]
      simp only [Result.andThen, Int.toNat_natCast, add_none, Nat.mul_one]
    rw [Int.natCast_emod] at hixk
    have hgd : kl.getD (i % kl.length) 0 = kl[i % kl.length] := by simp [List.getD, hml]
    clear hkr hc h0'
    obtain ⟨kx, hkx⟩ : ∃ kx, kx = kl[i % kl.length] := ⟨_, rfl⟩
    rw [← hkx] at hki hgd
    clear hkx
    repeat (any_goals (first
    | (with_reducible refine pureM_in ?_)
    | (with_reducible first|refine pureQ_in ?_|refine gdQ_conv (fun _ => ?_)|refine pickQT ?_|refine pickQF ?_|refine pickQ_pos (by first|assumption|omega) ?_|refine pickQ_neg (by first|assumption|omega) ?_|refine pickQn_pos (by first|assumption|omega) ?_|refine pickQn_neg (by first|assumption|omega) ?_) | ((with_reducible refine oQ_one ?_ ?_); exact ⟨_, rfl⟩) | (with_reducible first|refine And.intro (Eq.refl (α := World) _) ?_|refine forall_one ?_|refine oQ_nil ?_) | (with_reducible refine oQ_of ⟨_, rfl⟩ (fun W0 hW0 => by (refine oM_gen (fun Kv hK => ?_)); simp [go_sem]; (first | exact hK _ _ ⟨rfl, rfl⟩ | exact ⟨by omega, hK _ _ ⟨rfl, rfl⟩⟩)) ?_)
    | (with_reducible first|refine gdtT ?_|refine gdtF ?_|refine gdfF ?_|refine gdfT ?_|refine gdu ?_ _|refine gdt_pos (by first|assumption|omega) ?_|refine gdt_neg (by first|assumption|omega) ?_|refine gdt_split (fun hg => ?_) (fun hg => ?_)|refine gdf_pos (by first|assumption|omega) ?_|refine gdf_neg (by first|assumption|omega) ?_|refine gdf_split (fun hg => ?_) (fun hg => ?_)|refine gdtn_pos (by first|assumption|omega) ?_|refine gdtn_neg (by first|assumption|omega) ?_|refine gdtn_split (fun hg => ?_) (fun hg => ?_)|refine gdfn_pos (by first|assumption|omega) ?_|refine gdfn_neg (by first|assumption|omega) ?_|refine gdfn_split (fun hg => ?_) (fun hg => ?_)|refine gdtbn_pos (by assumption) ?_|refine gdtbn_neg (by assumption) ?_|refine gdfbn_pos (by assumption) ?_|refine gdfbn_neg (by assumption) ?_|refine gdtb_pos (by assumption) ?_|refine gdtb_neg (by assumption) ?_|refine gdtb_split (fun hg => ?_) (fun hg => ?_)|refine gdfb_pos (by assumption) ?_|refine gdfb_neg (by assumption) ?_|refine gdfb_split (fun hg => ?_) (fun hg => ?_)|refine pickT ?_|refine pickF ?_|refine pick_pos (by first|assumption|omega) ?_|refine pick_neg (by first|assumption|omega) ?_|refine pickn_pos (by first|assumption|omega) ?_|refine pickn_neg (by first|assumption|omega) ?_|refine pickbn_pos (by assumption) ?_|refine pickbn_neg (by assumption) ?_|refine pickb_pos (by assumption) ?_|refine pickb_neg (by assumption) ?_|refine condT ?_|refine condF ?_|refine cond_pos (by first|assumption|omega) ?_|refine cond_neg (by first|assumption|omega) ?_|refine condM_dec (fun hg => ?_) (fun hg => ?_)|refine condn_pos (by first|assumption|omega) ?_|refine condn_neg (by first|assumption|omega) ?_|refine condM_ndec (fun hg => ?_) (fun hg => ?_)|refine condbn_pos (by assumption) ?_|refine condbn_neg (by assumption) ?_|refine condbn_split (fun hg => ?_) (fun hg => ?_)|refine condb_pos (by assumption) ?_|refine condb_neg (by assumption) ?_|refine condM_b (fun hg => ?_) (fun hg => ?_))
    | ((with_reducible refine oM_gen (fun Kv hK => ?_)); simp [go_sem, hmod, hixk, hki, z7, z71]; (try simp (disch := omega) only [wrapI64, wrapU8, wrapU32, wrapU64]); (first | refine hK _ _ ?_ | refine And.intro (by omega) (hK _ _ ?_)); clear hK; clear Kv)))
    · have hsv : survF kl A.F i p = A.F := by unfold survF; rw [if_pos (.inr (.inl (by rw [hgd]; assumption)))]
      exact k w (d.reF hsv) (Fr.refl _ _)
    · have hsv : survF kl A.F i p = A.F := by unfold survF; rw [if_pos (.inr (.inr (by assumption)))]
      exact k w (d.reF hsv) (Fr.refl _ _)
    · have hbig : ¬ ((A.F p.1).1.length : Int) ≤ 64 * p.2 := by assumption
      have hodd : ¬ kx % 2 = 0 := by assumption
      have hsv : survF kl A.F i p = setF A.F p.1 ((A.F p.1).1, putB (A.F p.1).2 (64 * p.2).toNat (DkSpec.sector (A.F p.1).1 p.2)) := by
        unfold survF
        rw [if_neg]
        rw [hgd]
        rintro (h | h | h)
        · exact hkn h
        · exact hodd h
        · exact hbig h
      refine crTail_ok (n := n) (m := m) (p := p) d hp hm hc0 hc1 hs hn hm' hm2 hnm h0 (by omega) (fun w8 d8 f8 => ?_)
      refine k w8 ?_ f8
      rw [hsv]
      exact d8
set_option maxHeartbeats 1000000 in
theorem crBody_ok {i : Nat} {p : Int × Int} {M : List Value → World → Prop} (d : IsDk w b A h) {qa : Option Addr} {qc : Nat} (hq : h.q = .slice qa A.queue.length qc) (hqi : A.queue[i]? = some p) {kv : Value} {kl : List Int} (hkr : RowR intC 1 w kv kl) (hkl : kl.length < 2 ^ 62)
    (k : ∀ w' (at_ : Int), IsDk w' b { A with F := survF kl A.F i p } h → Step w b h w' h → M [.int .i64 (i : Int), .int .i64 at_] w') : crBody (dkP b) kv (.slice qa A.queue.length qc) (.int .i64 (i : Int)) M w := by
  unfold crBody
  have hlt : i < A.queue.length := (List.getElem?_eq_some_iff.1 hqi).1
  have hql := d.wf.ql
  have hpr := d.wf.qr p (List.mem_of_getElem? hqi)
  have ho3 := d.que
  rw [hq] at ho3
  obtain ⟨g, c, hv, e0, e1⟩ := sec_cells ho3 hqi
  cases hv
  have hix := idxSec (c := qc) (g := g) hlt w
  repeat (any_goals (first
  | (with_reducible refine pureM_in ?_)
  | (with_reducible first|refine pureQ_in ?_|refine gdQ_conv (fun _ => ?_)|refine pickQT ?_|refine pickQF ?_|refine pickQ_pos (by first|assumption|omega) ?_|refine pickQ_neg (by first|assumption|omega) ?_|refine pickQn_pos (by first|assumption|omega) ?_|refine pickQn_neg (by first|assumption|omega) ?_) | ((with_reducible refine oQ_one ?_ ?_); exact ⟨_, rfl⟩) | (with_reducible first|refine And.intro (Eq.refl (α := World) _) ?_|refine forall_one ?_|refine oQ_nil ?_) | (with_reducible refine oQ_of ⟨_, rfl⟩ (fun W0 hW0 => by (refine oM_gen (fun Kv hK => ?_)); simp [go_sem]; (first | exact hK _ _ ⟨rfl, rfl⟩ | exact ⟨by omega, hK _ _ ⟨rfl, rfl⟩⟩)) ?_)
  | (with_reducible first|refine gdtT ?_|refine gdtF ?_|refine gdfF ?_|refine gdfT ?_|refine gdu ?_ _|refine gdt_pos (by first|assumption|omega) ?_|refine gdt_neg (by first|assumption|omega) ?_|refine gdt_split (fun hg => ?_) (fun hg => ?_)|refine gdf_pos (by first|assumption|omega) ?_|refine gdf_neg (by first|assumption|omega) ?_|refine gdf_split (fun hg => ?_) (fun hg => ?_)|refine gdtn_pos (by first|assumption|omega) ?_|refine gdtn_neg (by first|assumption|omega) ?_|refine gdtn_split (fun hg => ?_) (fun hg => ?_)|refine gdfn_pos (by first|assumption|omega) ?_|refine gdfn_neg (by first|assumption|omega) ?_|refine gdfn_split (fun hg => ?_) (fun hg => ?_)|refine gdtbn_pos (by assumption) ?_|refine gdtbn_neg (by assumption) ?_|refine gdfbn_pos (by assumption) ?_|refine gdfbn_neg (by assumption) ?_|refine gdtb_pos (by assumption) ?_|refine gdtb_neg (by assumption) ?_|refine gdtb_split (fun hg => ?_) (fun hg => ?_)|refine gdfb_pos (by assumption) ?_|refine gdfb_neg (by assumption) ?_|refine gdfb_split (fun hg => ?_) (fun hg => ?_)|refine pickT ?_|refine pickF ?_|refine pick_pos (by first|assumption|omega) ?_|refine pick_neg (by first|assumption|omega) ?_|refine pickn_pos (by first|assumption|omega) ?_|refine pickn_neg (by first|assumption|omega) ?_|refine pickbn_pos (by assumption) ?_|refine pickbn_neg (by assumption) ?_|refine pickb_pos (by assumption) ?_|refine pickb_neg (by assumption) ?_|refine condT ?_|refine condF ?_|refine cond_pos (by first|assumption|omega) ?_|refine cond_neg (by first|assumption|omega) ?_|refine condM_dec (fun hg => ?_) (fun hg => ?_)|refine condn_pos (by first|assumption|omega) ?_|refine condn_neg (by first|assumption|omega) ?_|refine condM_ndec (fun hg => ?_) (fun hg => ?_)|refine condbn_pos (by assumption) ?_|refine condbn_neg (by assumption) ?_|refine condbn_split (fun hg => ?_) (fun hg => ?_)|refine condb_pos (by assumption) ?_|refine condb_neg (by assumption) ?_|refine condM_b (fun hg => ?_) (fun hg => ?_))
  | ((with_reducible refine oM_gen (fun Kv hK => ?_)); simp [go_sem, hix, e0, e1]; (try simp (disch := omega) only [wrapI64, wrapU8, wrapU32, wrapU64]); (first | refine hK _ _ ?_ | refine And.intro (by omega) (hK _ _ ?_)); clear hK; clear Kv)))
  have pf : Fr (fun _ => False) w (w.alloc (.cells #[.int .i64 p.1, .int .i64 p.2] 103 (0, 0))) := (Fr.refl _ _).alloc _
  have p0 := heap_alloc_new w (.cells #[.int .i64 p.1, .int .i64 p.2] 103 (0, 0))
  have pz := alloc_size w (.cells #[.int .i64 p.1, .int .i64 p.2] 103 (0, 0))
  generalize w.alloc (.cells #[.int .i64 p.1, .int .i64 p.2] 103 (0, 0)) = w4 at *
  have d4 := d.fresh pf
  have p00 := cell_of_block p0 0
  have p01 := cell_of_block p0 1
  simp at p00 p01
  have c0 := d4.c 0
  simp only [dkCells] at c0
  have lk : ∀ W : World, IsDk W b A h → _ := fun W hW => hW.look p.1
  simp only [flV, bsV] at lk
  have hwr : IntKind.i64.wrap (p.2 * 64) = 64 * p.2 := by rw [wrapI64 _ (by omega) (by omega)]; omega
  refine ⟨fun sg w' => sg ≤ 2 → IsDk w' b A h ∧ w'.heap[w.heap.size]? = some (.cells #[.int .i64 p.1, .int .i64 p.2] 103 (0, 0)), fun _ => ⟨d4.heap rfl, p0⟩, ?_⟩
  repeat (first | (with_reducible refine pureH_in ?_) | (with_reducible refine oH_nil ?_) | (with_reducible refine gdH_true rfl ?_) | (with_reducible refine gdH_false rfl ?_) | (refine oH_of ⟨_, rfl⟩ (fun W0 hW0 => by (obtain ⟨s0, hs0, hC⟩ := hW0); (refine oM_gen (fun Kv hK => ?_)); simp [go_sem, cell_of_block (hC (by omega)).1.blk, cell_of_block (hC (by omega)).2, dkCells, lk W0 (hC (by omega)).1, hwr]; (first | exact hK _ _ ⟨rfl, rfl⟩ | exact ⟨by omega, hK _ _ ⟨rfl, rfl⟩⟩)) ?_))
  generalize hw5 : ({ w4 with drawn := w4.drawn + 1 } : World) = w5
  have f35 : Fr (fun _ => False) w w5 := by rw [← hw5]; exact pf.drew
  have d5 := d.fresh f35
  have p5 : w5.heap[w.heap.size]? = some (.cells #[.int .i64 p.1, .int .i64 p.2] 103 (0, 0)) := by rw [← hw5]; exact p0
  clear hw5
  repeat (any_goals (first
  | (with_reducible refine pureM_in ?_)
  | (with_reducible first|refine pureQ_in ?_|refine gdQ_conv (fun _ => ?_)|refine pickQT ?_|refine pickQF ?_|refine pickQ_pos (by first|assumption|omega) ?_|refine pickQ_neg (by first|assumption|omega) ?_|refine pickQn_pos (by first|assumption|omega) ?_|refine pickQn_neg (by first|assumption|omega) ?_) | ((with_reducible refine oQ_one ?_ ?_); exact ⟨_, rfl⟩) | (with_reducible first|refine And.intro (Eq.refl (α := World) _) ?_|refine forall_one ?_|refine oQ_nil ?_) | (with_reducible refine oQ_of ⟨_, rfl⟩ (fun W0 hW0 => by (refine oM_gen (fun Kv hK => ?_)); simp [go_sem]; (first | exact hK _ _ ⟨rfl, rfl⟩ | exact ⟨by omega, hK _ _ ⟨rfl, rfl⟩⟩)) ?_)
  | (with_reducible first|refine gdtT ?_|refine gdtF ?_|refine gdfF ?_|refine gdfT ?_|refine gdu ?_ _|refine gdt_pos (by first|assumption|omega) ?_|refine gdt_neg (by first|assumption|omega) ?_|refine gdt_split (fun hg => ?_) (fun hg => ?_)|refine gdf_pos (by first|assumption|omega) ?_|refine gdf_neg (by first|assumption|omega) ?_|refine gdf_split (fun hg => ?_) (fun hg => ?_)|refine gdtn_pos (by first|assumption|omega) ?_|refine gdtn_neg (by first|assumption|omega) ?_|refine gdtn_split (fun hg => ?_) (fun hg => ?_)|refine gdfn_pos (by first|assumption|omega) ?_|refine gdfn_neg (by first|assumption|omega) ?_|refine gdfn_split (fun hg => ?_) (fun hg => ?_)|refine gdtbn_pos (by assumption) ?_|refine gdtbn_neg (by assumption) ?_|refine gdfbn_pos (by assumption) ?_|refine gdfbn_neg (by assumption) ?_|refine gdtb_pos (by assumption) ?_|refine gdtb_neg (by assumption) ?_|refine gdtb_split (fun hg => ?_) (fun hg => ?_)|refine gdfb_pos (by assumption) ?_|refine gdfb_neg (by assumption) ?_|refine gdfb_split (fun hg => ?_) (fun hg => ?_)|refine pickT ?_|refine pickF ?_|refine pick_pos (by first|assumption|omega) ?_|refine pick_neg (by first|assumption|omega) ?_|refine pickn_pos (by first|assumption|omega) ?_|refine pickn_neg (by first|assumption|omega) ?_|refine pickbn_pos (by assumption) ?_|refine pickbn_neg (by assumption) ?_|refine pickb_pos (by assumption) ?_|refine pickb_neg (by assumption) ?_|refine condT ?_|refine condF ?_|refine cond_pos (by first|assumption|omega) ?_|refine cond_neg (by first|assumption|omega) ?_|refine condM_dec (fun hg => ?_) (fun hg => ?_)|refine condn_pos (by first|assumption|omega) ?_|refine condn_neg (by first|assumption|omega) ?_|refine condM_ndec (fun hg => ?_) (fun hg => ?_)|refine condbn_pos (by assumption) ?_|refine condbn_neg (by assumption) ?_|refine condbn_split (fun hg => ?_) (fun hg => ?_)|refine condb_pos (by assumption) ?_|refine condb_neg (by assumption) ?_|refine condM_b (fun hg => ?_) (fun hg => ?_))
  | ((with_reducible refine oM_gen (fun Kv hK => ?_)); simp [go_sem]; (try simp (disch := omega) only [wrapI64, wrapU8, wrapU32, wrapU64]); (first | refine hK _ _ ?_ | refine And.intro (by omega) (hK _ _ ?_)); clear hK; clear Kv)))
  have z35 := f35.size
  have p5l := (Array.getElem?_eq_some_iff.1 p5).1
  have g6 : Fr (fun _ => False) w5 (w5.alloc (.cells #[.string ⟨#[]⟩, .string ⟨#[]⟩] 100 (0, 0))) := (Fr.refl _ _).alloc _
  have n6 := heap_alloc_new w5 (.cells #[.string ⟨#[]⟩, .string ⟨#[]⟩] 100 (0, 0))
  generalize w5.alloc (.cells #[.string ⟨#[]⟩, .string ⟨#[]⟩] 100 (0, 0)) = w6 at *
  refine ⟨fun _ => ⟨d5.fresh g6, (g6.block _ p5l (fun h => h)).trans p5⟩, ?_⟩
  refine store2_at (fun w => by kernel_rfl) rfl rfl n6 (by simp) (fun w7 cur7 g7 n7 s7 _ a7 b7 => ?_)
  have f7 : Fr (fun _ => False) w5 w7 := g6.by g7 (fun i hi => by cases hi; exact .inr (Nat.le_refl _))
  have f37 := f35.trans f7 (fun _ h => h.elim)
  have d7 := d.fresh f37
  have p7 := (f7.block _ p5l (fun h => h)).trans p5
  refine ⟨fun _ => ⟨d7, p7⟩, fun hs => absurd hs (by decide), ?_⟩
  rw [Nat.zero_add] at b7
  have hz37 := f37.size
  have hown : ∀ i, Own b h i ∨ Rdb h i → i < w.heap.size := fun i hi => d.lt hi
  have hkr7 : RowR intC 1 w7 kv kl := hkr.keep hz37 (fun i _ hi => f37.block i hi (fun h => h))
  refine crMid_ok (n := w.heap.size) (m := w5.heap.size) (p := p) d7 p7 n7 a7 b7 (by rw [s7]; rfl) (fun e => by have := hown _ (.inl e); omega) (fun e => by have := hown _ (.inl e); omega) (fun e => by have := hown _ (.inr e); omega) (by omega) ⟨hpr.2.2.1, hpr.2.2.2⟩ (by omega) hkr7 hkl (fun w8 d8 f8 => ?_)
  exact k w8 _ d8 ⟨(f37.mono (fun i _ hi => hi.elim)).trans f8 (fun i hi => hi.elim .inl (fun e => .inr (by omega))), fun _ h => .inl h, fun _ h => .inl h⟩
set_option maxHeartbeats 1000000 in
theorem crash_ok (d : IsDk w b A h) {kv : Value} {kl : List Int} (hkr : RowR intC 1 w kv kl) (hkl : kl.length < 2 ^ 62) (hkv : ∀ w', Fr (Own b h) w w' → RowR intC 1 w' kv kl) (k : ∀ w' h', IsDk w' b (crashA A kl) h' → Step w b h w' h' → K (.tuple #[]) w') : callM Tryd.prog 62 #[dkP b, kv] K w := by
  apply sh_62_ok
  unfold sh_62
  have c4 := d.c 4
  have f4 := d.fz 4
  simp only [dkCells] at c4
  have d1 := d.set4 true
  have c5 := d1.c 5
  have f5 := d1.fz 5
  simp only [dkCells] at c5
  have d2 := d1.set5 0 (by omega)
  have c1 := d2.c 1
  simp only [dkCells] at c1
  obtain ⟨qa, qc, hq⟩ := owns_len d.que
  repeat (any_goals (first
  | (with_reducible refine pureM_in ?_)
  | (with_reducible first|refine pureQ_in ?_|refine gdQ_conv (fun _ => ?_)|refine pickQT ?_|refine pickQF ?_|refine pickQ_pos (by first|assumption|omega) ?_|refine pickQ_neg (by first|assumption|omega) ?_|refine pickQn_pos (by first|assumption|omega) ?_|refine pickQn_neg (by first|assumption|omega) ?_) | ((with_reducible refine oQ_one ?_ ?_); exact ⟨_, rfl⟩) | (with_reducible first|refine And.intro (Eq.refl (α := World) _) ?_|refine forall_one ?_|refine oQ_nil ?_) | (with_reducible refine oQ_of ⟨_, rfl⟩ (fun W0 hW0 => by (refine oM_gen (fun Kv hK => ?_)); simp [go_sem]; (first | exact hK _ _ ⟨rfl, rfl⟩ | exact ⟨by omega, hK _ _ ⟨rfl, rfl⟩⟩)) ?_)
  | (with_reducible first|refine gdtT ?_|refine gdtF ?_|refine gdfF ?_|refine gdfT ?_|refine gdu ?_ _|refine gdt_pos (by first|assumption|omega) ?_|refine gdt_neg (by first|assumption|omega) ?_|refine gdt_split (fun hg => ?_) (fun hg => ?_)|refine gdf_pos (by first|assumption|omega) ?_|refine gdf_neg (by first|assumption|omega) ?_|refine gdf_split (fun hg => ?_) (fun hg => ?_)|refine gdtn_pos (by first|assumption|omega) ?_|refine gdtn_neg (by first|assumption|omega) ?_|refine gdtn_split (fun hg => ?_) (fun hg => ?_)|refine gdfn_pos (by first|assumption|omega) ?_|refine gdfn_neg (by first|assumption|omega) ?_|refine gdfn_split (fun hg => ?_) (fun hg => ?_)|refine gdtbn_pos (by assumption) ?_|refine gdtbn_neg (by assumption) ?_|refine gdfbn_pos (by assumption) ?_|refine gdfbn_neg (by assumption) ?_|refine gdtb_pos (by assumption) ?_|refine gdtb_neg (by assumption) ?_|refine gdtb_split (fun hg => ?_) (fun hg => ?_)|refine gdfb_pos (by assumption) ?_|refine gdfb_neg (by assumption) ?_|refine gdfb_split (fun hg => ?_) (fun hg => ?_)|refine pickT ?_|refine pickF ?_|refine pick_pos (by first|assumption|omega) ?_|refine pick_neg (by first|assumption|omega) ?_|refine pickn_pos (by first|assumption|omega) ?_|refine pickn_neg (by first|assumption|omega) ?_|refine pickbn_pos (by assumption) ?_|refine pickbn_neg (by assumption) ?_|refine pickb_pos (by assumption) ?_|refine pickb_neg (by assumption) ?_|refine condT ?_|refine condF ?_|refine cond_pos (by first|assumption|omega) ?_|refine cond_neg (by first|assumption|omega) ?_|refine condM_dec (fun hg => ?_) (fun hg => ?_)|refine condn_pos (by first|assumption|omega) ?_|refine condn_neg (by first|assumption|omega) ?_|refine condM_ndec (fun hg => ?_) (fun hg => ?_)|refine condbn_pos (by assumption) ?_|refine condbn_neg (by assumption) ?_|refine condbn_split (fun hg => ?_) (fun hg => ?_)|refine condb_pos (by assumption) ?_|refine condb_neg (by assumption) ?_|refine condM_b (fun hg => ?_) (fun hg => ?_))
  | ((with_reducible refine oM_gen (fun Kv hK => ?_)); simp [go_sem, c4, f4, c5, f5, c1, hq]; (try simp (disch := omega) only [wrapI64, wrapU8, wrapU32, wrapU64]); (first | refine hK _ _ ?_ | refine And.intro (by omega) (hK _ _ ?_)); clear hK; clear Kv)))
  · have e : crashA A kl = A := by unfold crashA; rw [if_pos hg]
    rw [e] at k
    exact k w h d (Step.refl _ _ _)
  have hdown : A.down = false := hg
  have t2 : Step w b h ((w.setCell ⟨b, 4, none⟩ (.bool true)).setCell ⟨b, 5, none⟩ (.int .i64 0)) h := (step_set _ _ _ _ _).trans (step_set _ _ _ _ _)
  generalize (w.setCell ⟨b, 4, none⟩ (.bool true)).setCell ⟨b, 5, none⟩ (.int .i64 0) = w2 at *
  refine ⟨fun l w' => ∃ u1 u2, ∃ i : Nat, l = [u1, u2, .int .i64 (i : Int)] ∧ i ≤ A.queue.length ∧ IsDk w' b { A with F := survAll kl A.F 0 (A.queue.take i), down := true, armed := 0 } h ∧ Step w b h w' h, fun l _ => match l with | [_, _, .int _ n] => ((A.queue.length : Int) - n).toNat | _ => 0, ⟨_, _, 0, rfl, by omega, d2, t2⟩, ?_⟩
  rintro l u w3 ⟨u1, u2, i, rfl, hin, d3, t3⟩
  have hqlen := d.wf.ql
  simp only [List.getD_cons_zero, List.getD_cons_succ]
  repeat (any_goals (first
  | (with_reducible refine pureM_in ?_)
  | (with_reducible first|refine pureQ_in ?_|refine gdQ_conv (fun _ => ?_)|refine pickQT ?_|refine pickQF ?_|refine pickQ_pos (by first|assumption|omega) ?_|refine pickQ_neg (by first|assumption|omega) ?_|refine pickQn_pos (by first|assumption|omega) ?_|refine pickQn_neg (by first|assumption|omega) ?_) | ((with_reducible refine oQ_one ?_ ?_); exact ⟨_, rfl⟩) | (with_reducible first|refine And.intro (Eq.refl (α := World) _) ?_|refine forall_one ?_|refine oQ_nil ?_) | (with_reducible refine oQ_of ⟨_, rfl⟩ (fun W0 hW0 => by (refine oM_gen (fun Kv hK => ?_)); simp [go_sem]; (first | exact hK _ _ ⟨rfl, rfl⟩ | exact ⟨by omega, hK _ _ ⟨rfl, rfl⟩⟩)) ?_)
  | (with_reducible first|refine gdtT ?_|refine gdtF ?_|refine gdfF ?_|refine gdfT ?_|refine gdu ?_ _|refine gdt_pos (by first|assumption|omega) ?_|refine gdt_neg (by first|assumption|omega) ?_|refine gdt_split (fun hg => ?_) (fun hg => ?_)|refine gdf_pos (by first|assumption|omega) ?_|refine gdf_neg (by first|assumption|omega) ?_|refine gdf_split (fun hg => ?_) (fun hg => ?_)|refine gdtn_pos (by first|assumption|omega) ?_|refine gdtn_neg (by first|assumption|omega) ?_|refine gdtn_split (fun hg => ?_) (fun hg => ?_)|refine gdfn_pos (by first|assumption|omega) ?_|refine gdfn_neg (by first|assumption|omega) ?_|refine gdfn_split (fun hg => ?_) (fun hg => ?_)|refine gdtbn_pos (by assumption) ?_|refine gdtbn_neg (by assumption) ?_|refine gdfbn_pos (by assumption) ?_|refine gdfbn_neg (by assumption) ?_|refine gdtb_pos (by assumption) ?_|refine gdtb_neg (by assumption) ?_|refine gdtb_split (fun hg => ?_) (fun hg => ?_)|refine gdfb_pos (by assumption) ?_|refine gdfb_neg (by assumption) ?_|refine gdfb_split (fun hg => ?_) (fun hg => ?_)|refine pickT ?_|refine pickF ?_|refine pick_pos (by first|assumption|omega) ?_|refine pick_neg (by first|assumption|omega) ?_|refine pickn_pos (by first|assumption|omega) ?_|refine pickn_neg (by first|assumption|omega) ?_|refine pickbn_pos (by assumption) ?_|refine pickbn_neg (by assumption) ?_|refine pickb_pos (by assumption) ?_|refine pickb_neg (by assumption) ?_|refine condT ?_|refine condF ?_|refine cond_pos (by first|assumption|omega) ?_|refine cond_neg (by first|assumption|omega) ?_|refine condM_dec (fun hg => ?_) (fun hg => ?_)|refine condn_pos (by first|assumption|omega) ?_|refine condn_neg (by first|assumption|omega) ?_|refine condM_ndec (fun hg => ?_) (fun hg => ?_)|refine condbn_pos (by assumption) ?_|refine condbn_neg (by assumption) ?_|refine condbn_split (fun hg => ?_) (fun hg => ?_)|refine condb_pos (by assumption) ?_|refine condb_neg (by assumption) ?_|refine condM_b (fun hg => ?_) (fun hg => ?_))
  | ((with_reducible refine oM_gen (fun Kv hK => ?_)); simp [go_sem]; (try simp (disch := omega) only [wrapI64, wrapU8, wrapU32, wrapU64]); (first | refine hK _ _ ?_ | refine And.intro (by omega) (hK _ _ ?_)); clear hK; clear Kv)))
  · have hlt : i < A.queue.length := by omega
    obtain ⟨Fi, hFi⟩ : ∃ Fi, Fi = survAll kl A.F 0 (A.queue.take i) := ⟨_, rfl⟩
    rw [← hFi] at d3
    obtain ⟨p, hp⟩ : ∃ p, p = A.queue[i] := ⟨_, rfl⟩
    have hqi : A.queue[i]? = some p := by rw [hp]; exact List.getElem?_eq_getElem hlt
    have hnext : survAll kl A.F 0 (A.queue.take (i + 1)) = survF kl Fi i p := by
      rw [List.take_succ_eq_append_getElem hlt, survAll_snoc, ← hFi, hp, List.length_take, Nat.zero_add, Nat.min_eq_left (by omega)]
    have hkr3 : RowR intC 1 w3 kv kl := hkv _ t3.fr
    refine ⟨fun l w' => ∃ u1, ∃ at_ : Int, l = [u1, .int .i64 at_] ∧ IsDk w' b { A with F := survAll kl A.F 0 (A.queue.take (i + 1)), down := true, armed := 0 } h ∧ Step w b h w' h, ?_, ?_⟩
    · refine crBody_ok (M := fun l w' => ∃ u1, ∃ at_ : Int, l = [u1, .int .i64 at_] ∧ IsDk w' b { A with F := survAll kl A.F 0 (A.queue.take (i + 1)), down := true, armed := 0 } h ∧ Step w b h w' h) (p := p) d3 hq hqi hkr3 hkl (fun w' at_ d' t' => ⟨_, at_, rfl, ?_, t3.trans t'⟩)
      rw [hnext]
      exact d'
    · rintro l u w4 ⟨u3, at_, rfl, d4, t4⟩
      simp only [List.getD_cons_zero, List.getD_cons_succ]
      repeat (any_goals (first
      | (with_reducible refine pureM_in ?_)
      | (with_reducible first|refine pureQ_in ?_|refine gdQ_conv (fun _ => ?_)|refine pickQT ?_|refine pickQF ?_|refine pickQ_pos (by first|assumption|omega) ?_|refine pickQ_neg (by first|assumption|omega) ?_|refine pickQn_pos (by first|assumption|omega) ?_|refine pickQn_neg (by first|assumption|omega) ?_) | ((with_reducible refine oQ_one ?_ ?_); exact ⟨_, rfl⟩) | (with_reducible first|refine And.intro (Eq.refl (α := World) _) ?_|refine forall_one ?_|refine oQ_nil ?_) | (with_reducible refine oQ_of ⟨_, rfl⟩ (fun W0 hW0 => by (refine oM_gen (fun Kv hK => ?_)); simp [go_sem]; (first | exact hK _ _ ⟨rfl, rfl⟩ | exact ⟨by omega, hK _ _ ⟨rfl, rfl⟩⟩)) ?_)
      | (with_reducible first|refine gdtT ?_|refine gdtF ?_|refine gdfF ?_|refine gdfT ?_|refine gdu ?_ _|refine gdt_pos (by first|assumption|omega) ?_|refine gdt_neg (by first|assumption|omega) ?_|refine gdt_split (fun hg => ?_) (fun hg => ?_)|refine gdf_pos (by first|assumption|omega) ?_|refine gdf_neg (by first|assumption|omega) ?_|refine gdf_split (fun hg => ?_) (fun hg => ?_)|refine gdtn_pos (by first|assumption|omega) ?_|refine gdtn_neg (by first|assumption|omega) ?_|refine gdtn_split (fun hg => ?_) (fun hg => ?_)|refine gdfn_pos (by first|assumption|omega) ?_|refine gdfn_neg (by first|assumption|omega) ?_|refine gdfn_split (fun hg => ?_) (fun hg => ?_)|refine gdtbn_pos (by assumption) ?_|refine gdtbn_neg (by assumption) ?_|refine gdfbn_pos (by assumption) ?_|refine gdfbn_neg (by assumption) ?_|refine gdtb_pos (by assumption) ?_|refine gdtb_neg (by assumption) ?_|refine gdtb_split (fun hg => ?_) (fun hg => ?_)|refine gdfb_pos (by assumption) ?_|refine gdfb_neg (by assumption) ?_|refine gdfb_split (fun hg => ?_) (fun hg => ?_)|refine pickT ?_|refine pickF ?_|refine pick_pos (by first|assumption|omega) ?_|refine pick_neg (by first|assumption|omega) ?_|refine pickn_pos (by first|assumption|omega) ?_|refine pickn_neg (by first|assumption|omega) ?_|refine pickbn_pos (by assumption) ?_|refine pickbn_neg (by assumption) ?_|refine pickb_pos (by assumption) ?_|refine pickb_neg (by assumption) ?_|refine condT ?_|refine condF ?_|refine cond_pos (by first|assumption|omega) ?_|refine cond_neg (by first|assumption|omega) ?_|refine condM_dec (fun hg => ?_) (fun hg => ?_)|refine condn_pos (by first|assumption|omega) ?_|refine condn_neg (by first|assumption|omega) ?_|refine condM_ndec (fun hg => ?_) (fun hg => ?_)|refine condbn_pos (by assumption) ?_|refine condbn_neg (by assumption) ?_|refine condbn_split (fun hg => ?_) (fun hg => ?_)|refine condb_pos (by assumption) ?_|refine condb_neg (by assumption) ?_|refine condM_b (fun hg => ?_) (fun hg => ?_))
      | ((with_reducible refine oM_gen (fun Kv hK => ?_)); simp [go_sem]; (try simp (disch := omega) only [wrapI64, wrapU8, wrapU32, wrapU64]); (first | refine hK _ _ ?_ | refine And.intro (by omega) (hK _ _ ?_)); clear hK; clear Kv)))
      refine ⟨⟨_, _, i + 1, rfl, by omega, d4, t4⟩, ?_⟩
      show ((A.queue.length : Int) - ((i : Int) + 1)).toNat < _
      omega
  · have hi : i = A.queue.length := by omega
    subst hi
    rw [List.take_of_length_le (Nat.le_refl _)] at d3
    have e : crashA A kl = { ({ A with F := survAll kl A.F 0 A.queue, down := true, armed := 0 } : Ab) with F := fun f => ((survAll kl A.F 0 A.queue f).2, (survAll kl A.F 0 A.queue f).2), queue := [] } := by
      unfold crashA
      rw [if_neg (by rw [hdown]; simp)]
    rw [e] at k
    exact crEnd_ok d3 (fun w' h' d' t' => k w' h' d' (t3.trans t'))
end
end Go.Proofs
namespace Go.Proofs
open Go Go.Sh Go.RowKit DkSpec
set_option linter.unusedSimpArgs false
set_option linter.unusedVariables false
set_option maxRecDepth 10000
attribute [local go_sem] oM_indexAddr
section
variable {w : World} {b : Nat} {A : Ab} {h : Dk} {K : Value → World → Prop}
theorem inBlock_own {B : Nat} {e : TypeId} {sz : Nat} {v : Value} {n : Nat} {xs : List Value} (ho : w.ownsRow B e sz v n xs) {i : Nat} (hi : Value.inBlock v = some i) : v.ownBlock = some i := by
  rcases ho.2 with ⟨rfl, _⟩ | ⟨g, cap, cur, rfl, _⟩
  · cases hi
  · cases hi; rfl
theorem IsDk.keepRow (d : IsDk w b A h) : RowR intC 1 w h.kp A.keep := by
  have := d.kep
  rw [show A.keep.map i64V = flat intC A.keep from (flat_one i64V A.keep).symm] at this
  exact RowR.of_owns this
theorem crashK_ok (d : IsDk w b A h) (k : ∀ w' h', IsDk w' b (crashA A A.keep) h' → Step w b h w' h' → K (.tuple #[]) w') : callM Tryd.prog 62 #[dkP b, h.kp] K w :=
  crash_ok d d.keepRow d.wf.kl (fun w' f => d.keepRow.keep f.size (fun i hi hlt => f.block i hlt (fun ho => by
    have hk := inBlock_own d.kep hi
    have := d.kne hk
    rcases ho with rfl | rfl | rfl | ho
    · exact this.1 rfl
    · exact this.2.1 rfl
    · exact this.2.2.1 rfl
    · exact this.2.2.2 ho))) k
theorem Write_ok (d : IsDk w b A h) (f at_ : Int) (s : Bs) (hs : s.length < 2 ^ 60) (hat : -2 ^ 63 ≤ at_ ∧ at_ < 2 ^ 63) (k : ∀ w' h', IsDk w' b (writeA A f at_ s).2 h' → Step w b h w' h' → K (.int .i64 (writeA A f at_ s).1) w') : callM Tryd.prog 53 #[dkP b, .int .i64 f, .int .i64 at_, bsV s] K w := by
  apply sh_53_ok
  unfold sh_53
  refine ends_ok d (fun w1 d1 t1 => ?_)
  refine write_ok d1 f at_ s hs hat (fun w2 h2 d2 t2 => ?_)
  have t02 := t1.trans t2
  unfold writeA at k
  cases he : (endsA A).1 with
  | false =>
    rw [he] at k
    simp only [Bool.false_eq_true, if_false] at k
    repeat (any_goals (first
    | (with_reducible refine pureM_in ?_)
    | (with_reducible first|refine pureQ_in ?_|refine gdQ_conv (fun _ => ?_)|refine pickQT ?_|refine pickQF ?_|refine pickQ_pos (by first|assumption|omega) ?_|refine pickQ_neg (by first|assumption|omega) ?_|refine pickQn_pos (by first|assumption|omega) ?_|refine pickQn_neg (by first|assumption|omega) ?_) | ((with_reducible refine oQ_one ?_ ?_); exact ⟨_, rfl⟩) | (with_reducible first|refine And.intro (Eq.refl (α := World) _) ?_|refine forall_one ?_|refine oQ_nil ?_) | (with_reducible refine oQ_of ⟨_, rfl⟩ (fun W0 hW0 => by (refine oM_gen (fun Kv hK => ?_)); simp [go_sem]; (first | exact hK _ _ ⟨rfl, rfl⟩ | exact ⟨by omega, hK _ _ ⟨rfl, rfl⟩⟩)) ?_)
    | (with_reducible first|refine gdtT ?_|refine gdtF ?_|refine gdfF ?_|refine gdfT ?_|refine gdu ?_ _|refine gdt_pos (by first|assumption|omega) ?_|refine gdt_neg (by first|assumption|omega) ?_|refine gdt_split (fun hg => ?_) (fun hg => ?_)|refine gdf_pos (by first|assumption|omega) ?_|refine gdf_neg (by first|assumption|omega) ?_|refine gdf_split (fun hg => ?_) (fun hg => ?_)|refine gdtn_pos (by first|assumption|omega) ?_|refine gdtn_neg (by first|assumption|omega) ?_|refine gdtn_split (fun hg => ?_) (fun hg => ?_)|refine gdfn_pos (by first|assumption|omega) ?_|refine gdfn_neg (by first|assumption|omega) ?_|refine gdfn_split (fun hg => ?_) (fun hg => ?_)|refine gdtbn_pos (by assumption) ?_|refine gdtbn_neg (by assumption) ?_|refine gdfbn_pos (by assumption) ?_|refine gdfbn_neg (by assumption) ?_|refine gdtb_pos (by assumption) ?_|refine gdtb_neg (by assumption) ?_|refine gdtb_split (fun hg => ?_) (fun hg => ?_)|refine gdfb_pos (by assumption) ?_|refine gdfb_neg (by assumption) ?_|refine gdfb_split (fun hg => ?_) (fun hg => ?_)|refine pickT ?_|refine pickF ?_|refine pick_pos (by first|assumption|omega) ?_|refine pick_neg (by first|assumption|omega) ?_|refine pickn_pos (by first|assumption|omega) ?_|refine pickn_neg (by first|assumption|omega) ?_|refine pickbn_pos (by assumption) ?_|refine pickbn_neg (by assumption) ?_|refine pickb_pos (by assumption) ?_|refine pickb_neg (by assumption) ?_|refine condT ?_|refine condF ?_|refine cond_pos (by first|assumption|omega) ?_|refine cond_neg (by first|assumption|omega) ?_|refine condM_dec (fun hg => ?_) (fun hg => ?_)|refine condn_pos (by first|assumption|omega) ?_|refine condn_neg (by first|assumption|omega) ?_|refine condM_ndec (fun hg => ?_) (fun hg => ?_)|refine condbn_pos (by assumption) ?_|refine condbn_neg (by assumption) ?_|refine condbn_split (fun hg => ?_) (fun hg => ?_)|refine condb_pos (by assumption) ?_|refine condb_neg (by assumption) ?_|refine condM_b (fun hg => ?_) (fun hg => ?_))
    | ((with_reducible refine oM_gen (fun Kv hK => ?_)); simp [go_sem]; (try simp (disch := omega) only [wrapI64, wrapU8, wrapU32, wrapU64]); (first | refine hK _ _ ?_ | refine And.intro (by omega) (hK _ _ ?_)); clear hK; clear Kv)))
    exact k w2 h2 d2 t02
  | true =>
    rw [he] at k
    simp only [if_true] at k
    have c6 := d2.c 6
    simp only [dkCells] at c6
    repeat (any_goals (first
    | (with_reducible refine pureM_in ?_)
    | (with_reducible first|refine pureQ_in ?_|refine gdQ_conv (fun _ => ?_)|refine pickQT ?_|refine pickQF ?_|refine pickQ_pos (by first|assumption|omega) ?_|refine pickQ_neg (by first|assumption|omega) ?_|refine pickQn_pos (by first|assumption|omega) ?_|refine pickQn_neg (by first|assumption|omega) ?_) | ((with_reducible refine oQ_one ?_ ?_); exact ⟨_, rfl⟩) | (with_reducible first|refine And.intro (Eq.refl (α := World) _) ?_|refine forall_one ?_|refine oQ_nil ?_) | (with_reducible refine oQ_of ⟨_, rfl⟩ (fun W0 hW0 => by (refine oM_gen (fun Kv hK => ?_)); simp [go_sem]; (first | exact hK _ _ ⟨rfl, rfl⟩ | exact ⟨by omega, hK _ _ ⟨rfl, rfl⟩⟩)) ?_)
    | (with_reducible refine crashK_ok d2 ?_)
    | (with_reducible first|refine gdtT ?_|refine gdtF ?_|refine gdfF ?_|refine gdfT ?_|refine gdu ?_ _|refine gdt_pos (by first|assumption|omega) ?_|refine gdt_neg (by first|assumption|omega) ?_|refine gdt_split (fun hg => ?_) (fun hg => ?_)|refine gdf_pos (by first|assumption|omega) ?_|refine gdf_neg (by first|assumption|omega) ?_|refine gdf_split (fun hg => ?_) (fun hg => ?_)|refine gdtn_pos (by first|assumption|omega) ?_|refine gdtn_neg (by first|assumption|omega) ?_|refine gdtn_split (fun hg => ?_) (fun hg => ?_)|refine gdfn_pos (by first|assumption|omega) ?_|refine gdfn_neg (by first|assumption|omega) ?_|refine gdfn_split (fun hg => ?_) (fun hg => ?_)|refine gdtbn_pos (by assumption) ?_|refine gdtbn_neg (by assumption) ?_|refine gdfbn_pos (by assumption) ?_|refine gdfbn_neg (by assumption) ?_|refine gdtb_pos (by assumption) ?_|refine gdtb_neg (by assumption) ?_|refine gdtb_split (fun hg => ?_) (fun hg => ?_)|refine gdfb_pos (by assumption) ?_|refine gdfb_neg (by assumption) ?_|refine gdfb_split (fun hg => ?_) (fun hg => ?_)|refine pickT ?_|refine pickF ?_|refine pick_pos (by first|assumption|omega) ?_|refine pick_neg (by first|assumption|omega) ?_|refine pickn_pos (by first|assumption|omega) ?_|refine pickn_neg (by first|assumption|omega) ?_|refine pickbn_pos (by assumption) ?_|refine pickbn_neg (by assumption) ?_|refine pickb_pos (by assumption) ?_|refine pickb_neg (by assumption) ?_|refine condT ?_|refine condF ?_|refine cond_pos (by first|assumption|omega) ?_|refine cond_neg (by first|assumption|omega) ?_|refine condM_dec (fun hg => ?_) (fun hg => ?_)|refine condn_pos (by first|assumption|omega) ?_|refine condn_neg (by first|assumption|omega) ?_|refine condM_ndec (fun hg => ?_) (fun hg => ?_)|refine condbn_pos (by assumption) ?_|refine condbn_neg (by assumption) ?_|refine condbn_split (fun hg => ?_) (fun hg => ?_)|refine condb_pos (by assumption) ?_|refine condb_neg (by assumption) ?_|refine condM_b (fun hg => ?_) (fun hg => ?_))
    | ((with_reducible refine oM_gen (fun Kv hK => ?_)); simp [go_sem, c6]; (try simp (disch := omega) only [wrapI64, wrapU8, wrapU32, wrapU64]); (first | refine hK _ _ ?_ | refine And.intro (by omega) (hK _ _ ?_)); clear hK; clear Kv)))
    intro w3 h3 d3 t3
    repeat (any_goals (first
    | (with_reducible refine pureM_in ?_)
    | (with_reducible first|refine pureQ_in ?_|refine gdQ_conv (fun _ => ?_)|refine pickQT ?_|refine pickQF ?_|refine pickQ_pos (by first|assumption|omega) ?_|refine pickQ_neg (by first|assumption|omega) ?_|refine pickQn_pos (by first|assumption|omega) ?_|refine pickQn_neg (by first|assumption|omega) ?_) | ((with_reducible refine oQ_one ?_ ?_); exact ⟨_, rfl⟩) | (with_reducible first|refine And.intro (Eq.refl (α := World) _) ?_|refine forall_one ?_|refine oQ_nil ?_) | (with_reducible refine oQ_of ⟨_, rfl⟩ (fun W0 hW0 => by (refine oM_gen (fun Kv hK => ?_)); simp [go_sem]; (first | exact hK _ _ ⟨rfl, rfl⟩ | exact ⟨by omega, hK _ _ ⟨rfl, rfl⟩⟩)) ?_)
    | (with_reducible first|refine gdtT ?_|refine gdtF ?_|refine gdfF ?_|refine gdfT ?_|refine gdu ?_ _|refine gdt_pos (by first|assumption|omega) ?_|refine gdt_neg (by first|assumption|omega) ?_|refine gdt_split (fun hg => ?_) (fun hg => ?_)|refine gdf_pos (by first|assumption|omega) ?_|refine gdf_neg (by first|assumption|omega) ?_|refine gdf_split (fun hg => ?_) (fun hg => ?_)|refine gdtn_pos (by first|assumption|omega) ?_|refine gdtn_neg (by first|assumption|omega) ?_|refine gdtn_split (fun hg => ?_) (fun hg => ?_)|refine gdfn_pos (by first|assumption|omega) ?_|refine gdfn_neg (by first|assumption|omega) ?_|refine gdfn_split (fun hg => ?_) (fun hg => ?_)|refine gdtbn_pos (by assumption) ?_|refine gdtbn_neg (by assumption) ?_|refine gdfbn_pos (by assumption) ?_|refine gdfbn_neg (by assumption) ?_|refine gdtb_pos (by assumption) ?_|refine gdtb_neg (by assumption) ?_|refine gdtb_split (fun hg => ?_) (fun hg => ?_)|refine gdfb_pos (by assumption) ?_|refine gdfb_neg (by assumption) ?_|refine gdfb_split (fun hg => ?_) (fun hg => ?_)|refine pickT ?_|refine pickF ?_|refine pick_pos (by first|assumption|omega) ?_|refine pick_neg (by first|assumption|omega) ?_|refine pickn_pos (by first|assumption|omega) ?_|refine pickn_neg (by first|assumption|omega) ?_|refine pickbn_pos (by assumption) ?_|refine pickbn_neg (by assumption) ?_|refine pickb_pos (by assumption) ?_|refine pickb_neg (by assumption) ?_|refine condT ?_|refine condF ?_|refine cond_pos (by first|assumption|omega) ?_|refine cond_neg (by first|assumption|omega) ?_|refine condM_dec (fun hg => ?_) (fun hg => ?_)|refine condn_pos (by first|assumption|omega) ?_|refine condn_neg (by first|assumption|omega) ?_|refine condM_ndec (fun hg => ?_) (fun hg => ?_)|refine condbn_pos (by assumption) ?_|refine condbn_neg (by assumption) ?_|refine condbn_split (fun hg => ?_) (fun hg => ?_)|refine condb_pos (by assumption) ?_|refine condb_neg (by assumption) ?_|refine condM_b (fun hg => ?_) (fun hg => ?_))
    | ((with_reducible refine oM_gen (fun Kv hK => ?_)); simp [go_sem]; (try simp (disch := omega) only [wrapI64, wrapU8, wrapU32, wrapU64]); (first | refine hK _ _ ?_ | refine And.intro (by omega) (hK _ _ ?_)); clear hK; clear Kv)))
    exact k w3 h3 d3 (t02.trans t3)
theorem Sync_ok (d : IsDk w b A h) (f : Int) (k : ∀ w' h', IsDk w' b (syncA A f).2 h' → Step w b h w' h' → K (.int .i64 (syncA A f).1) w') : callM Tryd.prog 80 #[dkP b, .int .i64 f] K w := by
  apply sh_80_ok
  unfold sh_80
  refine ⟨fun l w' => l = [] ∧ ∃ h', IsDk w' b (comesA A) h' ∧ Step w b h w' h', ?_, ?_⟩
  · refine ends_ok d (fun w1 d1 t1 => ?_)
    unfold comesA
    cases he : (endsA A).1 with
    | false =>
      simp only [Bool.false_eq_true, if_false]
      repeat (any_goals (first
      | (with_reducible refine pureM_in ?_)
      | (with_reducible first|refine pureQ_in ?_|refine gdQ_conv (fun _ => ?_)|refine pickQT ?_|refine pickQF ?_|refine pickQ_pos (by first|assumption|omega) ?_|refine pickQ_neg (by first|assumption|omega) ?_|refine pickQn_pos (by first|assumption|omega) ?_|refine pickQn_neg (by first|assumption|omega) ?_) | ((with_reducible refine oQ_one ?_ ?_); exact ⟨_, rfl⟩) | (with_reducible first|refine And.intro (Eq.refl (α := World) _) ?_|refine forall_one ?_|refine oQ_nil ?_) | (with_reducible refine oQ_of ⟨_, rfl⟩ (fun W0 hW0 => by (refine oM_gen (fun Kv hK => ?_)); simp [go_sem]; (first | exact hK _ _ ⟨rfl, rfl⟩ | exact ⟨by omega, hK _ _ ⟨rfl, rfl⟩⟩)) ?_)
      | (with_reducible first|refine gdtT ?_|refine gdtF ?_|refine gdfF ?_|refine gdfT ?_|refine gdu ?_ _|refine gdt_pos (by first|assumption|omega) ?_|refine gdt_neg (by first|assumption|omega) ?_|refine gdt_split (fun hg => ?_) (fun hg => ?_)|refine gdf_pos (by first|assumption|omega) ?_|refine gdf_neg (by first|assumption|omega) ?_|refine gdf_split (fun hg => ?_) (fun hg => ?_)|refine gdtn_pos (by first|assumption|omega) ?_|refine gdtn_neg (by first|assumption|omega) ?_|refine gdtn_split (fun hg => ?_) (fun hg => ?_)|refine gdfn_pos (by first|assumption|omega) ?_|refine gdfn_neg (by first|assumption|omega) ?_|refine gdfn_split (fun hg => ?_) (fun hg => ?_)|refine gdtbn_pos (by assumption) ?_|refine gdtbn_neg (by assumption) ?_|refine gdfbn_pos (by assumption) ?_|refine gdfbn_neg (by assumption) ?_|refine gdtb_pos (by assumption) ?_|refine gdtb_neg (by assumption) ?_|refine gdtb_split (fun hg => ?_) (fun hg => ?_)|refine gdfb_pos (by assumption) ?_|refine gdfb_neg (by assumption) ?_|refine gdfb_split (fun hg => ?_) (fun hg => ?_)|refine pickT ?_|refine pickF ?_|refine pick_pos (by first|assumption|omega) ?_|refine pick_neg (by first|assumption|omega) ?_|refine pickn_pos (by first|assumption|omega) ?_|refine pickn_neg (by first|assumption|omega) ?_|refine pickbn_pos (by assumption) ?_|refine pickbn_neg (by assumption) ?_|refine pickb_pos (by assumption) ?_|refine pickb_neg (by assumption) ?_|refine condT ?_|refine condF ?_|refine cond_pos (by first|assumption|omega) ?_|refine cond_neg (by first|assumption|omega) ?_|refine condM_dec (fun hg => ?_) (fun hg => ?_)|refine condn_pos (by first|assumption|omega) ?_|refine condn_neg (by first|assumption|omega) ?_|refine condM_ndec (fun hg => ?_) (fun hg => ?_)|refine condbn_pos (by assumption) ?_|refine condbn_neg (by assumption) ?_|refine condbn_split (fun hg => ?_) (fun hg => ?_)|refine condb_pos (by assumption) ?_|refine condb_neg (by assumption) ?_|refine condM_b (fun hg => ?_) (fun hg => ?_))
      | ((with_reducible refine oM_gen (fun Kv hK => ?_)); simp [go_sem]; (try simp (disch := omega) only [wrapI64, wrapU8, wrapU32, wrapU64]); (first | refine hK _ _ ?_ | refine And.intro (by omega) (hK _ _ ?_)); clear hK; clear Kv)))
      exact ⟨by first | trivial | rfl, h, d1, t1⟩
    | true =>
      simp only [if_true]
      have c6 := d1.c 6
      simp only [dkCells] at c6
      repeat (any_goals (first
      | (with_reducible refine pureM_in ?_)
      | (with_reducible first|refine pureQ_in ?_|refine gdQ_conv (fun _ => ?_)|refine pickQT ?_|refine pickQF ?_|refine pickQ_pos (by first|assumption|omega) ?_|refine pickQ_neg (by first|assumption|omega) ?_|refine pickQn_pos (by first|assumption|omega) ?_|refine pickQn_neg (by first|assumption|omega) ?_) | ((with_reducible refine oQ_one ?_ ?_); exact ⟨_, rfl⟩) | (with_reducible first|refine And.intro (Eq.refl (α := World) _) ?_|refine forall_one ?_|refine oQ_nil ?_) | (with_reducible refine oQ_of ⟨_, rfl⟩ (fun W0 hW0 => by (refine oM_gen (fun Kv hK => ?_)); simp [go_sem]; (first | exact hK _ _ ⟨rfl, rfl⟩ | exact ⟨by omega, hK _ _ ⟨rfl, rfl⟩⟩)) ?_)
      | (with_reducible refine crashK_ok d1 ?_)
      | (with_reducible first|refine gdtT ?_|refine gdtF ?_|refine gdfF ?_|refine gdfT ?_|refine gdu ?_ _|refine gdt_pos (by first|assumption|omega) ?_|refine gdt_neg (by first|assumption|omega) ?_|refine gdt_split (fun hg => ?_) (fun hg => ?_)|refine gdf_pos (by first|assumption|omega) ?_|refine gdf_neg (by first|assumption|omega) ?_|refine gdf_split (fun hg => ?_) (fun hg => ?_)|refine gdtn_pos (by first|assumption|omega) ?_|refine gdtn_neg (by first|assumption|omega) ?_|refine gdtn_split (fun hg => ?_) (fun hg => ?_)|refine gdfn_pos (by first|assumption|omega) ?_|refine gdfn_neg (by first|assumption|omega) ?_|refine gdfn_split (fun hg => ?_) (fun hg => ?_)|refine gdtbn_pos (by assumption) ?_|refine gdtbn_neg (by assumption) ?_|refine gdfbn_pos (by assumption) ?_|refine gdfbn_neg (by assumption) ?_|refine gdtb_pos (by assumption) ?_|refine gdtb_neg (by assumption) ?_|refine gdtb_split (fun hg => ?_) (fun hg => ?_)|refine gdfb_pos (by assumption) ?_|refine gdfb_neg (by assumption) ?_|refine gdfb_split (fun hg => ?_) (fun hg => ?_)|refine pickT ?_|refine pickF ?_|refine pick_pos (by first|assumption|omega) ?_|refine pick_neg (by first|assumption|omega) ?_|refine pickn_pos (by first|assumption|omega) ?_|refine pickn_neg (by first|assumption|omega) ?_|refine pickbn_pos (by assumption) ?_|refine pickbn_neg (by assumption) ?_|refine pickb_pos (by assumption) ?_|refine pickb_neg (by assumption) ?_|refine condT ?_|refine condF ?_|refine cond_pos (by first|assumption|omega) ?_|refine cond_neg (by first|assumption|omega) ?_|refine condM_dec (fun hg => ?_) (fun hg => ?_)|refine condn_pos (by first|assumption|omega) ?_|refine condn_neg (by first|assumption|omega) ?_|refine condM_ndec (fun hg => ?_) (fun hg => ?_)|refine condbn_pos (by assumption) ?_|refine condbn_neg (by assumption) ?_|refine condbn_split (fun hg => ?_) (fun hg => ?_)|refine condb_pos (by assumption) ?_|refine condb_neg (by assumption) ?_|refine condM_b (fun hg => ?_) (fun hg => ?_))
      | ((with_reducible refine oM_gen (fun Kv hK => ?_)); simp [go_sem, c6]; (try simp (disch := omega) only [wrapI64, wrapU8, wrapU32, wrapU64]); (first | refine hK _ _ ?_ | refine And.intro (by omega) (hK _ _ ?_)); clear hK; clear Kv)))
      intro w3 h3 d3 t3
      exact ⟨by first | trivial | rfl, h3, d3, t1.trans t3⟩
  · rintro l u w1 ⟨rfl, h1, d1, t1⟩
    refine may_ok d1 f ?_
    have c0 := d1.c 0
    have c3 := d1.c 3
    have f3 := d1.fz 3
    simp only [dkCells] at c0 c3
    have hl := d1.look f
    have l0 := d1.wf.l0
    have l1 := d1.wf.l1
    unfold syncA at k
    repeat (any_goals (first
    | (with_reducible refine pureM_in ?_)
    | (with_reducible first|refine pureQ_in ?_|refine gdQ_conv (fun _ => ?_)|refine pickQT ?_|refine pickQF ?_|refine pickQ_pos (by first|assumption|omega) ?_|refine pickQ_neg (by first|assumption|omega) ?_|refine pickQn_pos (by first|assumption|omega) ?_|refine pickQn_neg (by first|assumption|omega) ?_) | ((with_reducible refine oQ_one ?_ ?_); exact ⟨_, rfl⟩) | (with_reducible first|refine And.intro (Eq.refl (α := World) _) ?_|refine forall_one ?_|refine oQ_nil ?_) | (with_reducible refine oQ_of ⟨_, rfl⟩ (fun W0 hW0 => by (refine oM_gen (fun Kv hK => ?_)); simp [go_sem]; (first | exact hK _ _ ⟨rfl, rfl⟩ | exact ⟨by omega, hK _ _ ⟨rfl, rfl⟩⟩)) ?_)
    | (with_reducible first|refine gdtT ?_|refine gdtF ?_|refine gdfF ?_|refine gdfT ?_|refine gdu ?_ _|refine gdt_pos (by first|assumption|omega) ?_|refine gdt_neg (by first|assumption|omega) ?_|refine gdt_split (fun hg => ?_) (fun hg => ?_)|refine gdf_pos (by first|assumption|omega) ?_|refine gdf_neg (by first|assumption|omega) ?_|refine gdf_split (fun hg => ?_) (fun hg => ?_)|refine gdtn_pos (by first|assumption|omega) ?_|refine gdtn_neg (by first|assumption|omega) ?_|refine gdtn_split (fun hg => ?_) (fun hg => ?_)|refine gdfn_pos (by first|assumption|omega) ?_|refine gdfn_neg (by first|assumption|omega) ?_|refine gdfn_split (fun hg => ?_) (fun hg => ?_)|refine gdtbn_pos (by assumption) ?_|refine gdtbn_neg (by assumption) ?_|refine gdfbn_pos (by assumption) ?_|refine gdfbn_neg (by assumption) ?_|refine gdtb_pos (by assumption) ?_|refine gdtb_neg (by assumption) ?_|refine gdtb_split (fun hg => ?_) (fun hg => ?_)|refine gdfb_pos (by assumption) ?_|refine gdfb_neg (by assumption) ?_|refine gdfb_split (fun hg => ?_) (fun hg => ?_)|refine pickT ?_|refine pickF ?_|refine pick_pos (by first|assumption|omega) ?_|refine pick_neg (by first|assumption|omega) ?_|refine pickn_pos (by first|assumption|omega) ?_|refine pickn_neg (by first|assumption|omega) ?_|refine pickbn_pos (by assumption) ?_|refine pickbn_neg (by assumption) ?_|refine pickb_pos (by assumption) ?_|refine pickb_neg (by assumption) ?_|refine condT ?_|refine condF ?_|refine cond_pos (by first|assumption|omega) ?_|refine cond_neg (by first|assumption|omega) ?_|refine condM_dec (fun hg => ?_) (fun hg => ?_)|refine condn_pos (by first|assumption|omega) ?_|refine condn_neg (by first|assumption|omega) ?_|refine condM_ndec (fun hg => ?_) (fun hg => ?_)|refine condbn_pos (by assumption) ?_|refine condbn_neg (by assumption) ?_|refine condbn_split (fun hg => ?_) (fun hg => ?_)|refine condb_pos (by assumption) ?_|refine condb_neg (by assumption) ?_|refine condM_b (fun hg => ?_) (fun hg => ?_))
    | ((with_reducible refine oM_gen (fun Kv hK => ?_)); simp [go_sem, c0, c3, f3, hl, flV, bsV]; (try simp (disch := omega) only [wrapI64, wrapU8, wrapU32, wrapU64]); (first | refine hK _ _ ?_ | refine And.intro (by omega) (hK _ _ ?_)); clear hK; clear Kv)))
    · rename_i hm
      rw [if_neg (by omega), if_pos hg] at k
      exact k _ _ (d1.set3 ((comesA A).lost - 1) (by omega)) (t1.trans (step_set _ _ _ _ _))
    · rename_i hm
      rw [if_neg (by omega), if_neg hg] at k
      refine settle_ok d1 f ((comesA A).F f).1 (d1.wf.sz f).1 (fun w2 h2 d2 t2 => ?_)
      repeat (any_goals (first
      | (with_reducible refine pureM_in ?_)
      | (with_reducible first|refine pureQ_in ?_|refine gdQ_conv (fun _ => ?_)|refine pickQT ?_|refine pickQF ?_|refine pickQ_pos (by first|assumption|omega) ?_|refine pickQ_neg (by first|assumption|omega) ?_|refine pickQn_pos (by first|assumption|omega) ?_|refine pickQn_neg (by first|assumption|omega) ?_) | ((with_reducible refine oQ_one ?_ ?_); exact ⟨_, rfl⟩) | (with_reducible first|refine And.intro (Eq.refl (α := World) _) ?_|refine forall_one ?_|refine oQ_nil ?_) | (with_reducible refine oQ_of ⟨_, rfl⟩ (fun W0 hW0 => by (refine oM_gen (fun Kv hK => ?_)); simp [go_sem]; (first | exact hK _ _ ⟨rfl, rfl⟩ | exact ⟨by omega, hK _ _ ⟨rfl, rfl⟩⟩)) ?_)
      | (with_reducible first|refine gdtT ?_|refine gdtF ?_|refine gdfF ?_|refine gdfT ?_|refine gdu ?_ _|refine gdt_pos (by first|assumption|omega) ?_|refine gdt_neg (by first|assumption|omega) ?_|refine gdt_split (fun hg => ?_) (fun hg => ?_)|refine gdf_pos (by first|assumption|omega) ?_|refine gdf_neg (by first|assumption|omega) ?_|refine gdf_split (fun hg => ?_) (fun hg => ?_)|refine gdtn_pos (by first|assumption|omega) ?_|refine gdtn_neg (by first|assumption|omega) ?_|refine gdtn_split (fun hg => ?_) (fun hg => ?_)|refine gdfn_pos (by first|assumption|omega) ?_|refine gdfn_neg (by first|assumption|omega) ?_|refine gdfn_split (fun hg => ?_) (fun hg => ?_)|refine gdtbn_pos (by assumption) ?_|refine gdtbn_neg (by assumption) ?_|refine gdfbn_pos (by assumption) ?_|refine gdfbn_neg (by assumption) ?_|refine gdtb_pos (by assumption) ?_|refine gdtb_neg (by assumption) ?_|refine gdtb_split (fun hg => ?_) (fun hg => ?_)|refine gdfb_pos (by assumption) ?_|refine gdfb_neg (by assumption) ?_|refine gdfb_split (fun hg => ?_) (fun hg => ?_)|refine pickT ?_|refine pickF ?_|refine pick_pos (by first|assumption|omega) ?_|refine pick_neg (by first|assumption|omega) ?_|refine pickn_pos (by first|assumption|omega) ?_|refine pickn_neg (by first|assumption|omega) ?_|refine pickbn_pos (by assumption) ?_|refine pickbn_neg (by assumption) ?_|refine pickb_pos (by assumption) ?_|refine pickb_neg (by assumption) ?_|refine condT ?_|refine condF ?_|refine cond_pos (by first|assumption|omega) ?_|refine cond_neg (by first|assumption|omega) ?_|refine condM_dec (fun hg => ?_) (fun hg => ?_)|refine condn_pos (by first|assumption|omega) ?_|refine condn_neg (by first|assumption|omega) ?_|refine condM_ndec (fun hg => ?_) (fun hg => ?_)|refine condbn_pos (by assumption) ?_|refine condbn_neg (by assumption) ?_|refine condbn_split (fun hg => ?_) (fun hg => ?_)|refine condb_pos (by assumption) ?_|refine condb_neg (by assumption) ?_|refine condM_b (fun hg => ?_) (fun hg => ?_))
      | ((with_reducible refine oM_gen (fun Kv hK => ?_)); simp [go_sem]; (try simp (disch := omega) only [wrapI64, wrapU8, wrapU32, wrapU64]); (first | refine hK _ _ ?_ | refine And.intro (by omega) (hK _ _ ?_)); clear hK; clear Kv)))
      exact k w2 h2 d2 (t1.trans t2)
    · rw [if_pos hg] at k
      exact k _ _ d1 t1
theorem Trunc_ok (d : IsDk w b A h) (f n : Int) (k : ∀ w' h', IsDk w' b (truncA A f n).2 h' → Step w b h w' h' → K (.int .i64 (truncA A f n).1) w') : callM Tryd.prog 82 #[dkP b, .int .i64 f, .int .i64 n] K w := by
  apply sh_82_ok
  unfold sh_82
  refine ⟨fun l w' => l = [] ∧ ∃ h', IsDk w' b (comesA A) h' ∧ Step w b h w' h', ?_, ?_⟩
  · refine ends_ok d (fun w1 d1 t1 => ?_)
    unfold comesA
    cases he : (endsA A).1 with
    | false =>
      simp only [Bool.false_eq_true, if_false]
      repeat (any_goals (first
      | (with_reducible refine pureM_in ?_)
      | (with_reducible first|refine pureQ_in ?_|refine gdQ_conv (fun _ => ?_)|refine pickQT ?_|refine pickQF ?_|refine pickQ_pos (by first|assumption|omega) ?_|refine pickQ_neg (by first|assumption|omega) ?_|refine pickQn_pos (by first|assumption|omega) ?_|refine pickQn_neg (by first|assumption|omega) ?_) | ((with_reducible refine oQ_one ?_ ?_); exact ⟨_, rfl⟩) | (with_reducible first|refine And.intro (Eq.refl (α := World) _) ?_|refine forall_one ?_|refine oQ_nil ?_) | (with_reducible refine oQ_of ⟨_, rfl⟩ (fun W0 hW0 => by (refine oM_gen (fun Kv hK => ?_)); simp [go_sem]; (first | exact hK _ _ ⟨rfl, rfl⟩ | exact ⟨by omega, hK _ _ ⟨rfl, rfl⟩⟩)) ?_)
      | (with_reducible first|refine gdtT ?_|refine gdtF ?_|refine gdfF ?_|refine gdfT ?_|refine gdu ?_ _|refine gdt_pos (by first|assumption|omega) ?_|refine gdt_neg (by first|assumption|omega) ?_|refine gdt_split (fun hg => ?_) (fun hg => ?_)|refine gdf_pos (by first|assumption|omega) ?_|refine gdf_neg (by first|assumption|omega) ?_|refine gdf_split (fun hg => ?_) (fun hg => ?_)|refine gdtn_pos (by first|assumption|omega) ?_|refine gdtn_neg (by first|assumption|omega) ?_|refine gdtn_split (fun hg => ?_) (fun hg => ?_)|refine gdfn_pos (by first|assumption|omega) ?_|refine gdfn_neg (by first|assumption|omega) ?_|refine gdfn_split (fun hg => ?_) (fun hg => ?_)|refine gdtbn_pos (by assumption) ?_|refine gdtbn_neg (by assumption) ?_|refine gdfbn_pos (by assumption) ?_|refine gdfbn_neg (by assumption) ?_|refine gdtb_pos (by assumption) ?_|refine gdtb_neg (by assumption) ?_|refine gdtb_split (fun hg => ?_) (fun hg => ?_)|refine gdfb_pos (by assumption) ?_|refine gdfb_neg (by assumption) ?_|refine gdfb_split (fun hg => ?_) (fun hg => ?_)|refine pickT ?_|refine pickF ?_|refine pick_pos (by first|assumption|omega) ?_|refine pick_neg (by first|assumption|omega) ?_|refine pickn_pos (by first|assumption|omega) ?_|refine pickn_neg (by first|assumption|omega) ?_|refine pickbn_pos (by assumption) ?_|refine pickbn_neg (by assumption) ?_|refine pickb_pos (by assumption) ?_|refine pickb_neg (by assumption) ?_|refine condT ?_|refine condF ?_|refine cond_pos (by first|assumption|omega) ?_|refine cond_neg (by first|assumption|omega) ?_|refine condM_dec (fun hg => ?_) (fun hg => ?_)|refine condn_pos (by first|assumption|omega) ?_|refine condn_neg (by first|assumption|omega) ?_|refine condM_ndec (fun hg => ?_) (fun hg => ?_)|refine condbn_pos (by assumption) ?_|refine condbn_neg (by assumption) ?_|refine condbn_split (fun hg => ?_) (fun hg => ?_)|refine condb_pos (by assumption) ?_|refine condb_neg (by assumption) ?_|refine condM_b (fun hg => ?_) (fun hg => ?_))
      | ((with_reducible refine oM_gen (fun Kv hK => ?_)); simp [go_sem]; (try simp (disch := omega) only [wrapI64, wrapU8, wrapU32, wrapU64]); (first | refine hK _ _ ?_ | refine And.intro (by omega) (hK _ _ ?_)); clear hK; clear Kv)))
      exact ⟨by first | trivial | rfl, h, d1, t1⟩
    | true =>
      simp only [if_true]
      have c6 := d1.c 6
      simp only [dkCells] at c6
      repeat (any_goals (first
      | (with_reducible refine pureM_in ?_)
      | (with_reducible first|refine pureQ_in ?_|refine gdQ_conv (fun _ => ?_)|refine pickQT ?_|refine pickQF ?_|refine pickQ_pos (by first|assumption|omega) ?_|refine pickQ_neg (by first|assumption|omega) ?_|refine pickQn_pos (by first|assumption|omega) ?_|refine pickQn_neg (by first|assumption|omega) ?_) | ((with_reducible refine oQ_one ?_ ?_); exact ⟨_, rfl⟩) | (with_reducible first|refine And.intro (Eq.refl (α := World) _) ?_|refine forall_one ?_|refine oQ_nil ?_) | (with_reducible refine oQ_of ⟨_, rfl⟩ (fun W0 hW0 => by (refine oM_gen (fun Kv hK => ?_)); simp [go_sem]; (first | exact hK _ _ ⟨rfl, rfl⟩ | exact ⟨by omega, hK _ _ ⟨rfl, rfl⟩⟩)) ?_)
      | (with_reducible refine crashK_ok d1 ?_)
      | (with_reducible first|refine gdtT ?_|refine gdtF ?_|refine gdfF ?_|refine gdfT ?_|refine gdu ?_ _|refine gdt_pos (by first|assumption|omega) ?_|refine gdt_neg (by first|assumption|omega) ?_|refine gdt_split (fun hg => ?_) (fun hg => ?_)|refine gdf_pos (by first|assumption|omega) ?_|refine gdf_neg (by first|assumption|omega) ?_|refine gdf_split (fun hg => ?_) (fun hg => ?_)|refine gdtn_pos (by first|assumption|omega) ?_|refine gdtn_neg (by first|assumption|omega) ?_|refine gdtn_split (fun hg => ?_) (fun hg => ?_)|refine gdfn_pos (by first|assumption|omega) ?_|refine gdfn_neg (by first|assumption|omega) ?_|refine gdfn_split (fun hg => ?_) (fun hg => ?_)|refine gdtbn_pos (by assumption) ?_|refine gdtbn_neg (by assumption) ?_|refine gdfbn_pos (by assumption) ?_|refine gdfbn_neg (by assumption) ?_|refine gdtb_pos (by assumption) ?_|refine gdtb_neg (by assumption) ?_|refine gdtb_split (fun hg => ?_) (fun hg => ?_)|refine gdfb_pos (by assumption) ?_|refine gdfb_neg (by assumption) ?_|refine gdfb_split (fun hg => ?_) (fun hg => ?_)|refine pickT ?_|refine pickF ?_|refine pick_pos (by first|assumption|omega) ?_|refine pick_neg (by first|assumption|omega) ?_|refine pickn_pos (by first|assumption|omega) ?_|refine pickn_neg (by first|assumption|omega) ?_|refine pickbn_pos (by assumption) ?_|refine pickbn_neg (by assumption) ?_|refine pickb_pos (by assumption) ?_|refine pickb_neg (by assumption) ?_|refine condT ?_|refine condF ?_|refine cond_pos (by first|assumption|omega) ?_|refine cond_neg (by first|assumption|omega) ?_|refine condM_dec (fun hg => ?_) (fun hg => ?_)|refine condn_pos (by first|assumption|omega) ?_|refine condn_neg (by first|assumption|omega) ?_|refine condM_ndec (fun hg => ?_) (fun hg => ?_)|refine condbn_pos (by assumption) ?_|refine condbn_neg (by assumption) ?_|refine condbn_split (fun hg => ?_) (fun hg => ?_)|refine condb_pos (by assumption) ?_|refine condb_neg (by assumption) ?_|refine condM_b (fun hg => ?_) (fun hg => ?_))
      | ((with_reducible refine oM_gen (fun Kv hK => ?_)); simp [go_sem, c6]; (try simp (disch := omega) only [wrapI64, wrapU8, wrapU32, wrapU64]); (first | refine hK _ _ ?_ | refine And.intro (by omega) (hK _ _ ?_)); clear hK; clear Kv)))
      intro w3 h3 d3 t3
      exact ⟨by first | trivial | rfl, h3, d3, t1.trans t3⟩
  · rintro l u w1 ⟨rfl, h1, d1, t1⟩
    refine may_ok d1 f ?_
    have c0 := d1.c 0
    simp only [dkCells] at c0
    have hl := d1.look f
    unfold truncA at k
    repeat (any_goals (first
    | (with_reducible refine pureM_in ?_)
    | (with_reducible first|refine pureQ_in ?_|refine gdQ_conv (fun _ => ?_)|refine pickQT ?_|refine pickQF ?_|refine pickQ_pos (by first|assumption|omega) ?_|refine pickQ_neg (by first|assumption|omega) ?_|refine pickQn_pos (by first|assumption|omega) ?_|refine pickQn_neg (by first|assumption|omega) ?_) | ((with_reducible refine oQ_one ?_ ?_); exact ⟨_, rfl⟩) | (with_reducible first|refine And.intro (Eq.refl (α := World) _) ?_|refine forall_one ?_|refine oQ_nil ?_) | (with_reducible refine oQ_of ⟨_, rfl⟩ (fun W0 hW0 => by (refine oM_gen (fun Kv hK => ?_)); simp [go_sem]; (first | exact hK _ _ ⟨rfl, rfl⟩ | exact ⟨by omega, hK _ _ ⟨rfl, rfl⟩⟩)) ?_)
    | (with_reducible refine size_ok d1 f ?_)
    | (with_reducible first|refine gdtT ?_|refine gdtF ?_|refine gdfF ?_|refine gdfT ?_|refine gdu ?_ _|refine gdt_pos (by first|assumption|omega) ?_|refine gdt_neg (by first|assumption|omega) ?_|refine gdt_split (fun hg => ?_) (fun hg => ?_)|refine gdf_pos (by first|assumption|omega) ?_|refine gdf_neg (by first|assumption|omega) ?_|refine gdf_split (fun hg => ?_) (fun hg => ?_)|refine gdtn_pos (by first|assumption|omega) ?_|refine gdtn_neg (by first|assumption|omega) ?_|refine gdtn_split (fun hg => ?_) (fun hg => ?_)|refine gdfn_pos (by first|assumption|omega) ?_|refine gdfn_neg (by first|assumption|omega) ?_|refine gdfn_split (fun hg => ?_) (fun hg => ?_)|refine gdtbn_pos (by assumption) ?_|refine gdtbn_neg (by assumption) ?_|refine gdfbn_pos (by assumption) ?_|refine gdfbn_neg (by assumption) ?_|refine gdtb_pos (by assumption) ?_|refine gdtb_neg (by assumption) ?_|refine gdtb_split (fun hg => ?_) (fun hg => ?_)|refine gdfb_pos (by assumption) ?_|refine gdfb_neg (by assumption) ?_|refine gdfb_split (fun hg => ?_) (fun hg => ?_)|refine pickT ?_|refine pickF ?_|refine pick_pos (by first|assumption|omega) ?_|refine pick_neg (by first|assumption|omega) ?_|refine pickn_pos (by first|assumption|omega) ?_|refine pickn_neg (by first|assumption|omega) ?_|refine pickbn_pos (by assumption) ?_|refine pickbn_neg (by assumption) ?_|refine pickb_pos (by assumption) ?_|refine pickb_neg (by assumption) ?_|refine condT ?_|refine condF ?_|refine cond_pos (by first|assumption|omega) ?_|refine cond_neg (by first|assumption|omega) ?_|refine condM_dec (fun hg => ?_) (fun hg => ?_)|refine condn_pos (by first|assumption|omega) ?_|refine condn_neg (by first|assumption|omega) ?_|refine condM_ndec (fun hg => ?_) (fun hg => ?_)|refine condbn_pos (by assumption) ?_|refine condbn_neg (by assumption) ?_|refine condbn_split (fun hg => ?_) (fun hg => ?_)|refine condb_pos (by assumption) ?_|refine condb_neg (by assumption) ?_|refine condM_b (fun hg => ?_) (fun hg => ?_))
    | ((with_reducible refine oM_gen (fun Kv hK => ?_)); simp [go_sem, c0, hl, flV, bsV]; (try simp (disch := omega) only [wrapI64, wrapU8, wrapU32, wrapU64]); (first | refine hK _ _ ?_ | refine And.intro (by omega) (hK _ _ ?_)); clear hK; clear Kv)))
    · rename_i hm
      rw [if_neg (by omega), if_pos (.inl hg)] at k
      exact k _ _ d1 t1
    · rename_i hm h0
      rw [if_neg (by omega), if_pos (.inr (by omega))] at k
      exact k _ _ d1 t1
    · rename_i hm h0
      rw [if_neg (by omega), if_neg (by omega)] at k
      have hsz := (d1.wf.sz f).1
      have e : (⟨((comesA A).F f).1.toArray⟩ : ByteArray).extract 0 n.toNat = ⟨(((comesA A).F f).1.take n.toNat).toArray⟩ := by
        rw [ba_ext]; simp
      try rw [e]
      refine settle_ok d1 f (((comesA A).F f).1.take n.toNat) (by simp; omega) (fun w2 h2 d2 t2 => ?_)
      repeat (any_goals (first
      | (with_reducible refine pureM_in ?_)
      | (with_reducible first|refine pureQ_in ?_|refine gdQ_conv (fun _ => ?_)|refine pickQT ?_|refine pickQF ?_|refine pickQ_pos (by first|assumption|omega) ?_|refine pickQ_neg (by first|assumption|omega) ?_|refine pickQn_pos (by first|assumption|omega) ?_|refine pickQn_neg (by first|assumption|omega) ?_) | ((with_reducible refine oQ_one ?_ ?_); exact ⟨_, rfl⟩) | (with_reducible first|refine And.intro (Eq.refl (α := World) _) ?_|refine forall_one ?_|refine oQ_nil ?_) | (with_reducible refine oQ_of ⟨_, rfl⟩ (fun W0 hW0 => by (refine oM_gen (fun Kv hK => ?_)); simp [go_sem]; (first | exact hK _ _ ⟨rfl, rfl⟩ | exact ⟨by omega, hK _ _ ⟨rfl, rfl⟩⟩)) ?_)
      | (with_reducible first|refine gdtT ?_|refine gdtF ?_|refine gdfF ?_|refine gdfT ?_|refine gdu ?_ _|refine gdt_pos (by first|assumption|omega) ?_|refine gdt_neg (by first|assumption|omega) ?_|refine gdt_split (fun hg => ?_) (fun hg => ?_)|refine gdf_pos (by first|assumption|omega) ?_|refine gdf_neg (by first|assumption|omega) ?_|refine gdf_split (fun hg => ?_) (fun hg => ?_)|refine gdtn_pos (by first|assumption|omega) ?_|refine gdtn_neg (by first|assumption|omega) ?_|refine gdtn_split (fun hg => ?_) (fun hg => ?_)|refine gdfn_pos (by first|assumption|omega) ?_|refine gdfn_neg (by first|assumption|omega) ?_|refine gdfn_split (fun hg => ?_) (fun hg => ?_)|refine gdtbn_pos (by assumption) ?_|refine gdtbn_neg (by assumption) ?_|refine gdfbn_pos (by assumption) ?_|refine gdfbn_neg (by assumption) ?_|refine gdtb_pos (by assumption) ?_|refine gdtb_neg (by assumption) ?_|refine gdtb_split (fun hg => ?_) (fun hg => ?_)|refine gdfb_pos (by assumption) ?_|refine gdfb_neg (by assumption) ?_|refine gdfb_split (fun hg => ?_) (fun hg => ?_)|refine pickT ?_|refine pickF ?_|refine pick_pos (by first|assumption|omega) ?_|refine pick_neg (by first|assumption|omega) ?_|refine pickn_pos (by first|assumption|omega) ?_|refine pickn_neg (by first|assumption|omega) ?_|refine pickbn_pos (by assumption) ?_|refine pickbn_neg (by assumption) ?_|refine pickb_pos (by assumption) ?_|refine pickb_neg (by assumption) ?_|refine condT ?_|refine condF ?_|refine cond_pos (by first|assumption|omega) ?_|refine cond_neg (by first|assumption|omega) ?_|refine condM_dec (fun hg => ?_) (fun hg => ?_)|refine condn_pos (by first|assumption|omega) ?_|refine condn_neg (by first|assumption|omega) ?_|refine condM_ndec (fun hg => ?_) (fun hg => ?_)|refine condbn_pos (by assumption) ?_|refine condbn_neg (by assumption) ?_|refine condbn_split (fun hg => ?_) (fun hg => ?_)|refine condb_pos (by assumption) ?_|refine condb_neg (by assumption) ?_|refine condM_b (fun hg => ?_) (fun hg => ?_))
      | ((with_reducible refine oM_gen (fun Kv hK => ?_)); simp [go_sem]; (try simp (disch := omega) only [wrapI64, wrapU8, wrapU32, wrapU64]); (first | refine hK _ _ ?_ | refine And.intro (by omega) (hK _ _ ?_)); clear hK; clear Kv)))
      exact k w2 h2 d2 (t1.trans t2)
    · rw [if_pos hg] at k
      exact k _ _ d1 t1
end
end Go.Proofs
namespace Go.Proofs
open Go Go.Sh Go.RowKit CodeSpec JnSpec DkSpec
set_option linter.unusedSimpArgs false
set_option linter.unusedVariables false
set_option maxRecDepth 10000
attribute [local go_sem] oM_indexAddr
def JO (p : Nat) (v : Value) (i : Nat) : Prop := i = p ∨ v.ownBlock = some i
def jnCells (b : Nat) (f : Int) (v : Value) (j : Jn) : Array Value := #[dkP b, .int .i64 f, v, .int .i64 (j.bytes : Int), .bool j.broken]
structure IsJn (w : World) (b : Nat) (h : Dk) (p : Nat) (f : Int) (j : Jn) (v : Value) : Prop where
  blk : w.heap[p]? = some (.cells (jnCells b f v j) 98 (0, 0))
  row : w.ownsRow 0 9 1 v j.recs.length (j.recs.map Cd.strV)
  sep : ∀ i, JO p v i → ¬ Own b h i ∧ ¬ Rdb h i
  six : ∀ i, JO p v i → 6 ≤ i
  len : j.recs.length ≤ j.bytes ∧ j.bytes ≤ 16777216
structure Sys (w : World) (b : Nat) (A : Ab) (h : Dk) : Prop where
  d : IsDk w b A h
  l : Cd.Laid w
  six : ∀ i, Own b h i → 6 ≤ i
section
variable {w w' : World} {b p : Nat} {A A' : Ab} {h h' : Dk} {f : Int} {j j' : Jn} {v v' : Value} {K : Value → World → Prop}
theorem Sys.step (s : Sys w b A h) (d : IsDk w' b A' h') (t : Step w b h w' h') : Sys w' b A' h' :=
  ⟨d, s.l.keep (fun k hk => t.fr.block k (by have := s.l.size; omega) (fun ho => by have := s.six k ho; omega)) t.fr.size, fun i hi => (t.own i hi).elim (s.six i) (fun hn => by have := s.l.size; omega)⟩
theorem Sys.fresh (s : Sys w b A h) {S : Nat → Prop} (f : Fr S w w') (hs : ∀ i, S i → ¬ (Own b h i ∨ Rdb h i) ∧ 6 ≤ i) : Sys w' b A h :=
  ⟨s.d.keep (fun i hi => f.block i (s.d.lt hi) (fun hx => (hs i hx).1 hi)), s.l.keep (fun k hk => f.block k (by have := s.l.size; omega) (fun hx => by have := (hs k hx).2; omega)) f.size, s.six⟩
theorem Sys.below (s : Sys w b A h) (f : Below w.heap.size w w') : Sys w' b A h :=
  s.fresh (S := fun _ => False) ⟨f.os, f.tape, f.output, f.size, fun i hi _ => f.block i hi⟩ (fun _ h => h.elim)
theorem IsJn.lt (jn : IsJn w b h p f j v) {i : Nat} (hi : JO p v i) : i < w.heap.size := by
  rcases hi with rfl | hi
  · exact (Array.getElem?_eq_some_iff.1 jn.blk).1
  · exact (owns_own jn.row hi).1
theorem IsJn.pv (jn : IsJn w b h p f j v) : v.ownBlock ≠ some p := fun hp => by
  obtain ⟨_, _, cur, hc⟩ := owns_own jn.row hp
  rw [jn.blk] at hc; cases hc
theorem IsJn.keep (jn : IsJn w b h p f j v) {S : Nat → Prop} (g : Fr S w w') (hs : ∀ i, S i → ¬ JO p v i) (ho : ∀ i, Own b h' i ∨ Rdb h' i → Own b h i ∨ Rdb h i ∨ w.heap.size ≤ i) : IsJn w' b h' p f j v := by
  have hb : ∀ i, JO p v i → w'.heap[i]? = w.heap[i]? := fun i hi => g.block i (jn.lt hi) (fun hx => hs i hx hi)
  refine ⟨by rw [hb p (.inl rfl)]; exact jn.blk, owns_keep jn.row (fun i hi => hb i (.inr hi)), fun i hi => ?_, jn.six, jn.len⟩
  have hl := jn.lt hi
  have hs := jn.sep i hi
  exact ⟨fun hx => (ho i (.inl hx)).elim hs.1 (fun hy => hy.elim hs.2 (fun hz => by omega)), fun hx => (ho i (.inr hx)).elim hs.1 (fun hy => hy.elim hs.2 (fun hz => by omega))⟩
theorem IsJn.step (jn : IsJn w b h p f j v) (t : Step w b h w' h') : IsJn w' b h' p f j v :=
  jn.keep t.fr (fun i hi hj => (jn.sep i hj).1 hi) (fun i hi => hi.elim (fun hx => (t.own i hx).elim .inl (fun hy => .inr (.inr hy))) (fun hx => (t.rd i hx).elim (fun hy => .inr (.inl hy)) (fun hy => .inr (.inr hy))))
theorem IsJn.below (jn : IsJn w b h p f j v) (g : Below w.heap.size w w') : IsJn w' b h p f j v :=
  jn.keep (S := fun _ => False) ⟨g.os, g.tape, g.output, g.size, fun i hi _ => g.block i hi⟩ (fun _ h => h.elim) (fun i hi => hi.elim .inl (fun h => .inr (.inl h)))
theorem IsJn.c (jn : IsJn w b h p f j v) (i : Nat) : w.cell? ⟨p, i, none⟩ = (jnCells b f v j)[i]? := cell_of_block jn.blk i
theorem IsJn.fz (jn : IsJn w b h p f j v) (i : Nat) : w.frozen? ⟨p, i, none⟩ = false := frozen_of_block jn.blk i
@[reducible] def jnP (p : Nat) : Value := .pointer (some ⟨p, 0, none⟩)
theorem len_ok (jn : IsJn w b h p f j v) (k : K (.int .i64 (j.recs.length : Int)) w) : callM Tryd.prog 55 #[jnP p] K w := by
  apply sh_55_ok
  unfold sh_55 jnP
  have c2 := jn.c 2
  simp only [jnCells] at c2
  obtain ⟨va, vc, rfl⟩ := owns_len jn.row
  repeat (any_goals ((with_reducible refine idO ?_); (with_reducible refine oM_gen fun Kv hK=>?_); simp [go_sem, c2]; refine hK _ _ ?_; clear hK; clear Kv))
  exact k
theorem get_ok (jn : IsJn w b h p f j v) (i : Int) (k : K (.string ⟨(if i < 0 then [] else j.recs.getD i.toNat []).toArray⟩) w) : callM Tryd.prog 56 #[jnP p, .int .i64 i] K w := by
  apply sh_56_ok
  unfold sh_56 jnP
  have c2 := jn.c 2
  simp only [jnCells] at c2
  obtain ⟨va, vc, rfl⟩ := owns_len jn.row
  by_cases h0 : i < 0
  · rw [if_pos h0] at k
    repeat (any_goals (first
    | (with_reducible first|((refine idGd ?_); ((refine idGdD ?_); refine zJ ?_))|((refine idPick ?_); refine yD ?_)|((refine idCond ?_); refine yL ?_))
    | ((with_reducible refine idO ?_); (with_reducible refine oM_gen fun Kv hK=>?_); simp [go_sem, c2]; refine hK _ _ ?_; clear hK; clear Kv)))
    exact k
  · rw [if_neg h0] at k
    by_cases h1 : (j.recs.length : Int) ≤ i
    · rw [List.getD_eq_getElem?_getD, List.getElem?_eq_none (by omega)] at k
      repeat (any_goals (first
      | (with_reducible first|refine pureM_in ?_|((refine idGd ?_); ((refine idGdD ?_); refine zI ?_))|((refine idPick ?_); refine yE ?_)|((refine idCond ?_); refine yN ?_))
      | ((with_reducible refine idO ?_); (with_reducible refine oM_gen fun Kv hK=>?_); simp [go_sem, c2]; refine hK _ _ ?_; clear hK; clear Kv)))
      exact k
    · obtain ⟨n, rfl⟩ : ∃ n : Nat, i = n := ⟨i.toNat, by omega⟩
      have hn : n < j.recs.length := by omega
      simp only [Int.toNat_natCast, List.getD_eq_getElem?_getD, List.getElem?_eq_getElem hn, Option.getD_some] at k
      obtain ⟨ad, c, e, hc⟩ := Cd.RowOf.of_owns jn.row
      cases e
      rcases hc with hc | ⟨gb, go, rfl, hgb, hc⟩
      · rw [hc] at hn; simp at hn
      have hix := Cd.idx23 (b := gb) (o := go) (c := vc) hn w
      have hcn := hc n hn
      simp only [Cd.strV] at hcn
      repeat (any_goals (first
      | (with_reducible first|refine pureM_in ?_|((refine idGd ?_); ((refine idGdD ?_); refine zI ?_))|((refine idPick ?_); refine yE ?_)|((refine idCond ?_); refine yO ?_))
      | ((with_reducible refine idO ?_); (with_reducible refine oM_gen fun Kv hK=>?_); simp [go_sem, c2, hix, hcn]; refine hK _ _ ?_; clear hK; clear Kv)))
      exact k
end
end Go.Proofs
namespace Go.Proofs
open Go Go.Sh Go.RowKit CodeSpec JnSpec DkSpec
set_option linter.unusedSimpArgs false
set_option linter.unusedVariables false
set_option maxRecDepth 10000
section
variable {w w' : World} {b p : Nat} {A A' : Ab} {h h' : Dk} {f : Int} {j j' : Jn} {v v' : Value} {K : Value → World → Prop}
theorem all_ok (jn : IsJn w b h p f j v) (k : ∀ v' w', w'.ownsRow w.heap.size 9 1 v' j.recs.length (j.recs.map Cd.strV) → Below w.heap.size w w' → K v' w') : callM Tryd.prog 54 #[jnP p] K w := by
  apply sh_54_ok
  unfold sh_54 jnP
  have c2 := jn.c 2
  simp only [jnCells] at c2
  have hlen := jn.len
  have hrow := jn.row
  obtain ⟨va, vc, rfl⟩ := owns_len hrow
  have hmk := run_make (P := Tryd.prog) w 23 9 Tryd.t9 (.string ⟨#[]⟩) Tryd.underlying23 (by kernel_rfl) (by kernel_rfl) .i64 .i64 (j.recs.length : Int) (j.recs.length : Int) (by omega) (Int.le_refl _) (by
    have : Tryd.t9.bytes = 16 := by kernel_rfl
    rw [this]; omega) (by omega)
  simp only [Int.toNat_natCast] at hmk
  have hsz : Tryd.t9.size = 1 := by kernel_rfl
  rw [hsz, Nat.mul_one] at hmk
  obtain ⟨cs, hcs⟩ : ∃ cs, cs = madeCells (Value.string ⟨#[]⟩).cells j.recs.length := ⟨_, rfl⟩
  have hcz : cs.size = j.recs.length := by rw [hcs]; simp [madeCells]
  rw [← hcs] at hmk
  have hb1 : Below w.heap.size w (w.alloc (.cells cs 9)) := (Below.refl _ _).alloc (Nat.le_refl _) _
  have h1 := heap_alloc_new w (.cells cs 9)
  have jn1 := jn.below hb1
  have c21 := jn1.c 2
  simp only [jnCells] at c21
  repeat (any_goals ((with_reducible refine idO ?_); (with_reducible refine oM_gen fun Kv hK=>?_); simp [go_sem, c2, hmk]; refine hK _ _ ?_; clear hK; clear Kv))
  generalize w.alloc (.cells cs 9) = w1 at *
  by_cases hn : j.recs.length = 0
  · have hcp := run_copy_none (P := Tryd.prog) w1 23 23 3 9 (some ⟨w.heap.size, 0, none⟩) va j.recs.length j.recs.length j.recs.length vc Tryd.underlying23 (by kernel_rfl) (by rw [hn]; rfl)
    repeat (any_goals ((with_reducible refine idO ?_); (with_reducible refine oM_gen fun Kv hK=>?_); simp [go_sem, c21, hcp]; refine hK _ _ ?_; clear hK; clear Kv))
    have e0 : j.recs = [] := List.length_eq_zero_iff.1 hn
    refine k _ w1 ⟨by simp, .inr ⟨_, _, _, rfl, Nat.le_refl _, h1, Nat.le_refl _, by unfold maxLen; omega, by omega, by rw [hn, e0]; simp⟩⟩ hb1
  · obtain ⟨g, cap, cur, hv, hg, _, hcur, hcs2, hnc, hcell⟩ := owns_cells jn1.row (by omega)
    cases hv
    have hxl : (j.recs.map Cd.strV).length = j.recs.length := by simp
    have hcp := run_copy_row (P := Tryd.prog) w1 23 23 3 9 w.heap.size 0 j.recs.length j.recs.length ⟨g, 0, none⟩ j.recs.length vc cs 9 (j.recs.map Cd.strV) Tryd.underlying23 (by kernel_rfl) h1 (by rw [hxl]; exact (Nat.min_self _).symm) (fun i x hx => by
      rw [Cd.addr_add, Nat.zero_add]; exact hcell i x hx) (by omega) (by
      intro x hx
      obtain ⟨s, _, rfl⟩ := List.mem_map.1 hx
      rfl)
    repeat (any_goals ((with_reducible refine idO ?_); (with_reducible refine oM_gen fun Kv hK=>?_); simp [go_sem, c21, hcp]; refine hK _ _ ?_; clear hK; clear Kv))
    have e1 : cs.toList.drop j.recs.length = [] := List.drop_eq_nil_of_le (by simp; omega)
    rw [e1, List.append_nil]
    have h2 := setRow_heap w1 w.heap.size cs (j.recs.map Cd.strV).toArray 9 (0, 0) h1
    refine k _ _ ⟨by simp, .inr ⟨_, _, _, rfl, Nat.le_refl _, h2, Nat.le_refl _, by unfold maxLen; omega, by simp, by rw [Nat.mul_one, List.take_of_length_le (by simp)]⟩⟩ (hb1.trans (Cd.below_of_grown (grown_setRow _ _ _) hb1.size (fun i hi => by cases hi; exact Nat.le_refl _)))
end
end Go.Proofs
namespace Go.Proofs
open Go Go.Sh Go.RowKit CodeSpec JnSpec DkSpec
set_option linter.unusedSimpArgs false
set_option linter.unusedVariables false
set_option maxRecDepth 10000
structure JSt (w : World) (b : Nat) (h : Dk) (p : Nat) (v : Value) (w' : World) (h' : Dk) (v' : Value) : Prop where
  fr : Fr (fun i => Own b h i ∨ JO p v i) w w'
  own : ∀ i, Own b h' i → Own b h i ∨ w.heap.size ≤ i
  rd : ∀ i, Rdb h' i → Rdb h i ∨ w.heap.size ≤ i
  jo : ∀ i, JO p v' i → JO p v i ∨ w.heap.size ≤ i
def Same (w W : World) : Prop := W.heap = w.heap ∧ W.os = w.os ∧ W.tape = w.tape ∧ W.output = w.output
theorem Same.below {w W : World} (h : Same w W) : Below w.heap.size w W := ⟨h.2.1, h.2.2.1, h.2.2.2, by rw [h.1]; exact Nat.le_refl _, fun i _ => by rw [h.1]⟩
section
variable {w w' w2 : World} {b p : Nat} {A A' : Ab} {h h' h2 : Dk} {f : Int} {j j' : Jn} {v v' v2 : Value} {K : Value → World → Prop}
theorem JSt.refl : JSt w b h p v w h v := ⟨Fr.refl _ _, fun _ h => .inl h, fun _ h => .inl h, fun _ h => .inl h⟩
theorem JSt.of_step (t : Step w b h w' h') : JSt w b h p v w' h' v := ⟨t.fr.mono (fun _ _ h => .inl h), t.own, t.rd, fun _ h => .inl h⟩
theorem JSt.trans (t : JSt w b h p v w' h' v') (u : JSt w' b h' p v' w2 h2 v2) : JSt w b h p v w2 h2 v2 :=
  ⟨t.fr.trans u.fr (fun i hi => hi.elim (fun h => (t.own i h).elim (fun h => .inl (.inl h)) .inr) (fun h => (t.jo i h).elim (fun h => .inl (.inr h)) .inr)),
   fun i hi => (u.own i hi).elim (t.own i) (fun h => .inr (Nat.le_trans t.fr.size h)),
   fun i hi => (u.rd i hi).elim (t.rd i) (fun h => .inr (Nat.le_trans t.fr.size h)),
   fun i hi => (u.jo i hi).elim (t.jo i) (fun h => .inr (Nat.le_trans t.fr.size h))⟩
theorem JSt.below (g : Below w.heap.size w w') : JSt w b h p v w' h v := ⟨⟨g.os, g.tape, g.output, g.size, fun i hi _ => g.block i hi⟩, fun _ h => .inl h, fun _ h => .inl h, fun _ h => .inl h⟩
theorem IsJn.set4 (jn : IsJn w b h p f j v) (t : Bool) : IsJn (w.setCell ⟨p, 4, none⟩ (.bool t)) b h p f { j with broken := t } v := by
  refine ⟨by rw [block_set jn.blk]; rfl, owns_keep jn.row (fun i hi => setCell_heap_ne _ _ _ _ (fun e => jn.pv (by rw [hi]; exact congrArg some e))), jn.sep, jn.six, jn.len⟩
theorem JSt.set (i : Nat) (u : Value) : JSt w b h p v (w.setCell ⟨p, i, none⟩ u) h v := ⟨(Fr.refl _ _).set _ _ (.inl (.inr (.inl rfl))), fun _ h => .inl h, fun _ h => .inl h, fun _ h => .inl h⟩
theorem Sys.set (s : Sys w b A h) (jn : IsJn w b h p f j v) (i : Nat) (u : Value) : Sys (w.setCell ⟨p, i, none⟩ u) b A h :=
  s.fresh (S := fun k => k = p) ((Fr.refl _ _).set _ _ (.inl rfl)) (fun k hk => by
    subst hk
    have h1 := jn.sep k (.inl rfl)
    exact ⟨fun h => h.elim h1.1 h1.2, jn.six k (.inl rfl)⟩)
theorem Sys.drew (s : Sys w b A h) : Sys { w with drawn := w.drawn + 1 } b A h := s.fresh (S := fun _ => False) ((Fr.refl _ _).drew) (fun _ h => h.elim)
theorem append_ok (s : Sys w b A h) (jn : IsJn w b h p f j v) (hf : 0 ≤ f ∧ f ≤ 15) (t : List UInt8) (ht : t.length ≤ 16777216) (k : ∀ w' h' v', Sys w' b (appendJ A f j t).2.1 h' → IsJn w' b h' p f (appendJ A f j t).2.2 v' → JSt w b h p v w' h' v' → K (.int .i64 (appendJ A f j t).1) w') : callM Tryd.prog 50 #[jnP p, .string ⟨t.toArray⟩] K w := by
  apply sh_50_ok
  unfold sh_50 jnP
  refine form_ok t ht s.l (fun w1 hb1 => ?_)
  have s1 := s.below hb1
  have jn1 := jn.below hb1
  have j1 : JSt w b h p v w1 h v := JSt.below hb1
  have hfl := form_len ht
  have hfp := form_pos t
  have hl := jn.len
  clear hb1 s jn
  have c0 := jn1.c 0
  have c1 := jn1.c 1
  have c3 := jn1.c 3
  have c4 := jn1.c 4
  simp only [jnCells] at c0 c1 c3 c4
  cases hb : j.broken with
  | true =>
    rw [hb] at c4
    unfold appendJ at k
    rw [if_pos hb] at k
    repeat (any_goals (first
    | (with_reducible ((refine idCond ?_); refine yL ?_))
    | ((with_reducible refine idO ?_); (with_reducible refine oM_gen fun Kv hK=>?_); simp [go_sem, c4]; refine hK _ _ ?_; clear hK; clear Kv)))
    exact k w1 h v s1 jn1 j1
  | false =>
    rw [hb] at c4
    unfold appendJ at k
    rw [if_neg (by rw [hb]; simp)] at k
    by_cases h1 : 20000 < t.length
    · rw [if_pos h1] at k
      repeat (any_goals (first
      | (with_reducible ((refine idCond ?_); first|refine yM ?_|refine yN ?_))
      | ((with_reducible refine idO ?_); (with_reducible refine oM_gen fun Kv hK=>?_); simp [go_sem, c4]; refine hK _ _ ?_; clear hK; clear Kv)))
      exact k w1 h v s1 jn1 j1
    rw [if_neg h1] at k
    by_cases h2 : 1048576 < j.bytes + (form t).length
    · rw [if_pos h2] at k
      repeat (any_goals (first
      | (with_reducible ((refine idCond ?_); first|refine yM ?_|refine yN ?_|refine yO ?_))
      | ((with_reducible refine idO ?_); (with_reducible refine oM_gen fun Kv hK=>?_); simp [go_sem, c4, c3]; (try simp (disch := omega) only [wrapI64, wrapU8, wrapU32, wrapU64]); refine hK _ _ ?_; clear hK; clear Kv)))
      exact k w1 h v s1 jn1 j1
    rw [if_neg h2] at k
    repeat (any_goals (first
    | (with_reducible ((refine idCond ?_); first|refine yM ?_|refine yO ?_))
    | ((with_reducible refine idO ?_); (with_reducible refine oM_gen fun Kv hK=>?_); simp [go_sem, c4, c3]; (try simp (disch := omega) only [wrapI64, wrapU8, wrapU32, wrapU64]); refine hK _ _ ?_; clear hK; clear Kv)))
    refine ⟨Same w1, ⟨rfl, rfl, rfl, rfl⟩, ?_⟩
    refine ⟨rfl, ?_⟩
    repeat (first | (with_reducible refine pureH_in ?_) | (with_reducible refine oH_nil ?_) | (with_reducible refine gdH_true rfl ?_) | (with_reducible refine gdH_false rfl ?_) | (refine oH_of ⟨_, rfl⟩ (fun W0 hW0 => by (refine oM_gen (fun Kv hK => ?_)); simp [go_sem, cell_heap hW0.1, c0, c1, c3]; (first | exact hK _ _ ⟨rfl, rfl⟩ | exact ⟨by omega, hK _ _ ⟨rfl, rfl⟩⟩)) ?_))
    refine ⟨fun _ _ => True, fun w2 hw2 => ?_⟩
    have s2 := s1.below hw2.below
    have jn2 := jn1.below hw2.below
    have j2 := j1.trans (JSt.below hw2.below)
    clear s1 jn1 j1 hw2 c0 c1 c3 c4
    refine Write_ok s2.d f j.bytes (form t) (by omega) (by omega) (fun w3 hh3 d3 t3 => ?_)
    have s3 := s2.step d3 t3
    have jn3 := jn2.step t3
    have j3 := j2.trans (JSt.of_step t3)
    clear s2 jn2 j2 t3 d3
    by_cases h3 : (writeA A f j.bytes (form t)).1 = 0
    · rw [if_neg (by rw [h3]; simp)] at k
      repeat (any_goals (first
      | (with_reducible ((refine idCond ?_); refine yR ?_))
      | ((with_reducible refine idO ?_); (with_reducible refine oM_gen fun Kv hK=>?_); simp [go_sem]; refine hK _ _ ?_; clear hK; clear Kv)))
      have b3 := jn3.blk
      have hwr : IntKind.i64.wrap ((j.bytes : Int) + ((form t).length : Int)) = ((j.bytes + (form t).length : Nat) : Int) := by rw [wrapI64] <;> omega
      refine ⟨fun sg W => sg ≤ 2 → W.heap[p]? = some (.cells (jnCells b f v j) 98 (0, 0)), fun _ => b3, ?_⟩
      iterate 11 (first | (with_reducible refine pureH_in ?_) | (with_reducible refine oH_nil ?_) | (with_reducible refine gdH_true rfl ?_) | (with_reducible refine gdH_false rfl ?_) | (refine oH_of ⟨_, rfl⟩ (fun W0 hW0 => by (obtain ⟨s0, hs0, hC⟩ := hW0); (have hsk : s0 ≤ 2 := by omega); (refine oM_gen (fun Kv hK => ?_)); simp [go_sem, cell_of_block (hC hsk), jnCells]; (first | exact hK _ _ ⟨rfl, rfl⟩ | exact ⟨by omega, hK _ _ ⟨rfl, rfl⟩⟩)) ?_))
      repeat (first | (with_reducible refine pureH_in ?_) | (with_reducible refine oH_nil ?_) | (with_reducible refine gdH_true rfl ?_) | (with_reducible refine gdH_false rfl ?_) | (refine oH_of ⟨_, rfl⟩ (fun W0 hW0 => by (obtain ⟨s0, hs0, hC⟩ := hW0); (refine oM_gen (fun Kv hK => ?_)); simp [go_sem, hwr]; (first | exact hK _ _ ⟨rfl, rfl⟩ | exact ⟨by omega, hK _ _ ⟨rfl, rfl⟩⟩)) ?_))
      have s4 := s3.drew
      have jn4 := jn3.below (w' := { w3 with drawn := w3.drawn + 1 }) ((Below.refl _ _).drew)
      have j4 := j3.trans (JSt.below (w' := { w3 with drawn := w3.drawn + 1 }) ((Below.refl _ _).drew))
      generalize ({ w3 with drawn := w3.drawn + 1 } : World) = w4 at *
      clear s3 jn3 j3 b3
      repeat (any_goals ((with_reducible refine idO ?_); (with_reducible refine oM_gen fun Kv hK=>?_); simp [go_sem]; refine hK _ _ ?_; clear hK; clear Kv))
      have hb5 : Below w4.heap.size w4 (w4.alloc (.cells #[.string ⟨t.toArray⟩] 9)) := (Below.refl _ _).alloc (Nat.le_refl _) _
      have hn5 := heap_alloc_new w4 (.cells #[.string ⟨t.toArray⟩] 9)
      have s5 := s4.below hb5
      have jn5 := jn4.below hb5
      have j5 := j4.trans (JSt.below hb5)
      generalize w4.alloc (.cells #[.string ⟨t.toArray⟩] 9) = w5 at *
      clear s4 jn4 j4
      have b5 := jn5.blk
      have hp5 := jn5.lt (.inl rfl)
      refine ⟨fun _ => b5, ?_⟩
      refine append_at 23 23 9 Tryd.t9 (.string ⟨#[]⟩) 1 16 Tryd.underlying23 (by kernel_rfl) (by kernel_rfl) (by kernel_rfl) (by kernel_rfl) rfl (by omega) jn5.row [Cd.strV t] rfl (fun e => by cases e) (fun a ha i u hu => by
        cases ha
        rw [Cd.addr_add, Nat.zero_add, cell_of_block hn5]
        match i, hu with
        | 0, hu => exact hu
        | i + 1, hu => simp at hu) (by intro u hu; simp only [List.mem_singleton] at hu; subst hu; rfl) (by unfold maxLen; omega) (by omega) (fun v6 w6 ho6 hg6 hv6 => ?_)
      have b6 : w6.heap[p]? = some (.cells (jnCells b f v j) 98 (0, 0)) := (hg6.block p hp5 (fun e => jn5.pv e.symm)).trans b5
      refine ⟨fun _ => b6, ?_⟩
      have f62 := frozen_of_block b6 2
      have c63 := block_set (i := 2) b6 v6
      have f63 := frozen_of_block c63 3
      have c62 := cell_of_block b6 2
      have c633 := cell_of_block c63 3
      simp [jnCells] at c62 c633
      obtain ⟨va6, vc6, rfl⟩ := owns_len ho6
      repeat (any_goals (first
      | (refine ⟨fun hh => absurd hh (by decide), ?_⟩)
      | ((with_reducible refine idO ?_); (with_reducible refine oM_gen fun Kv hK=>?_); simp [go_sem, c62, c633, f62, f63]; refine hK _ _ ?_; clear hK; clear Kv)))
      obtain ⟨v6, hv6e⟩ : ∃ v6, v6 = Value.slice va6 (j.recs.length + 1) vc6 := ⟨_, rfl⟩
      rw [← hv6e] at c63 ho6 hv6 ⊢
      have c64 := block_set (i := 3) c63 (.int .i64 ((j.bytes + (form t).length : Nat) : Int))
      have hz6 := hg6.size
      have hpv6 : v6.ownBlock ≠ some p := fun e => (hv6 p e).elim (fun e => jn5.pv e) (fun e => by omega)
      have hz5 := s5.l.size
      have hF : Fr (JO p v) w5 ((w6.setCell ⟨p, 2, none⟩ v6).setCell ⟨p, 3, none⟩ (.int .i64 ((j.bytes + (form t).length : Nat) : Int))) :=
        (((Fr.refl (JO p v) w5).by hg6 (fun i e => .inl (.inr e))).set _ _ (.inl (.inl rfl))).set _ _ (.inl (.inl rfl))
      refine k _ hh3 v6 (s5.fresh hF (fun i hi => ⟨fun e => e.elim (jn5.sep i hi).1 (jn5.sep i hi).2, jn5.six i hi⟩)) ⟨?_, ?_, ?_, ?_, ?_⟩ (j5.trans ⟨hF.mono (fun _ _ h => .inr h), fun _ h => .inl h, fun _ h => .inl h, ?_⟩)
      · refine Eq.trans c64 ?_
        simp [jnCells, hb]
      · simp only [List.length_append, List.length_singleton, List.map_append, List.map_cons, List.map_nil]
        refine owns_keep ho6 (fun i hi => ?_)
        have hip : i ≠ p := fun e => hpv6 (by rw [← e]; exact hi)
        rw [setCell_heap_ne _ _ _ _ hip, setCell_heap_ne _ _ _ _ hip]
      · rintro i (rfl | hi)
        · exact jn5.sep _ (.inl rfl)
        · rcases hv6 i hi with e | e
          · exact jn5.sep i (.inr e)
          · exact ⟨fun ho => by have := s5.d.lt (.inl ho); omega, fun ho => by have := s5.d.lt (.inr ho); omega⟩
      · rintro i (rfl | hi)
        · exact jn5.six _ (.inl rfl)
        · rcases hv6 i hi with e | e
          · exact jn5.six i (.inr e)
          · omega
      · simp only [List.length_append, List.length_singleton]
        omega
      · rintro i (rfl | hi)
        · exact .inl (.inl rfl)
        · exact (hv6 i hi).imp .inr id
    · rw [if_pos h3] at k
      have c43 := jn3.c 4
      have f43 := jn3.fz 4
      simp only [jnCells] at c43
      repeat (any_goals (first
      | (with_reducible ((refine idCond ?_); refine yQ ?_))
      | ((with_reducible refine idO ?_); (with_reducible refine oM_gen fun Kv hK=>?_); simp [go_sem, c43, f43]; refine hK _ _ ?_; clear hK; clear Kv)))
      exact k _ hh3 v (s3.set jn3 4 _) (jn3.set4 _) (j3.trans (JSt.set 4 _))
end
end Go.Proofs
namespace Go.Proofs
open Go Go.Sh Go.RowKit CodeSpec JnSpec DkSpec
set_option linter.unusedSimpArgs false
set_option linter.unusedVariables false
set_option maxRecDepth 10000
section
variable {w w' w2 : World} {b p : Nat} {A A' : Ab} {h h' h2 : Dk} {f : Int} {j j' : Jn} {v v' v2 : Value} {K : Value → World → Prop}
theorem Step.below (g : Below w.heap.size w w') : Step w b h w' h := ⟨⟨g.os, g.tape, g.output, g.size, fun i hi _ => g.block i hi⟩, fun _ h => .inl h, fun _ h => .inl h⟩
theorem readA_len (A : Ab) (f a n : Int) : (readA A f a n).1.length ≤ (A.F f).1.length := by
  unfold readA
  split
  · simp
  · split
    · simp
    · simp; omega
theorem formL_len (l : List Bs) : l.length ≤ (formL l).length := by
  induction l with
  | nil => simp
  | cons t l ih =>
    have := form_pos t
    rw [formL_cons, List.length_append, List.length_cons]
    omega
def Opened (w : World) (b : Nat) (h : Dk) (w0 : World) (f : Int) (r : Value) : Option Jn → Prop
  | none => r = .pointer none
  | some j => ∃ p v, r = jnP p ∧ IsJn w b h p f j v ∧ ∀ i, JO p v i → w0.heap.size ≤ i
theorem owns_zero {w : World} {B : Nat} {e : TypeId} {sz n : Nat} {v : Value} {xs : List Value} (h : w.ownsRow B e sz v n xs) : w.ownsRow 0 e sz v n xs := by
  refine ⟨h.1, h.2.imp id ?_⟩
  rintro ⟨g, cap, cur, a, b, c⟩
  exact ⟨g, cap, cur, a, Nat.zero_le _, c⟩
theorem opened_new {w0 w2 w3 : World} {C : Ab} {h1 h3 : Dk} {recs : List Bs} {n : Nat} (s3 : Sys w3 b C h3) (t3 : Step w2 b h1 w3 h3) (ho : w2.ownsRow 0 9 1 v recs.length (recs.map Cd.strV)) (hvo : ∀ i, v.ownBlock = some i → w0.heap.size ≤ i)
    (hvd : ∀ i, v.ownBlock = some i → ¬ Own b h1 i ∧ ¬ Rdb h1 i) (h6 : 6 ≤ w0.heap.size) (hz : w0.heap.size ≤ w2.heap.size) (hn : recs.length ≤ n ∧ n ≤ 16777216) :
    Sys (w3.alloc (.cells #[dkP b, .int .i64 f, v, .int .i64 (n : Int), .bool false] 98)) b C h3 ∧ Step w2 b h1 (w3.alloc (.cells #[dkP b, .int .i64 f, v, .int .i64 (n : Int), .bool false] 98)) h3 ∧
    Opened (w3.alloc (.cells #[dkP b, .int .i64 f, v, .int .i64 (n : Int), .bool false] 98)) b h3 w0 f (jnP w3.heap.size) (some ⟨recs, n, false⟩) := by
  have hb : Below w3.heap.size w3 (w3.alloc (.cells #[dkP b, .int .i64 f, v, .int .i64 (n : Int), .bool false] 98)) := (Below.refl _ _).alloc (Nat.le_refl _) _
  have hnew := heap_alloc_new w3 (.cells #[dkP b, .int .i64 f, v, .int .i64 (n : Int), .bool false] 98)
  generalize w3.alloc (.cells #[dkP b, .int .i64 f, v, .int .i64 (n : Int), .bool false] 98) = w4 at *
  have hz3 := t3.fr.size
  refine ⟨s3.below hb, t3.trans (Step.below hb), _, v, rfl, ⟨hnew, ?_, ?_, ?_, hn⟩, ?_⟩
  · refine owns_keep ho (fun i hi => ?_)
    have hl := (owns_own ho hi).1
    rw [hb.block i (by omega)]
    exact t3.fr.block i hl (hvd i hi).1
  · rintro i (rfl | hi)
    · exact ⟨fun ho => by have := s3.d.lt (.inl ho); omega, fun ho => by have := s3.d.lt (.inr ho); omega⟩
    · have hl := (owns_own ho hi).1
      exact ⟨fun hx => (t3.own i hx).elim (hvd i hi).1 (fun h => by omega), fun hx => (t3.rd i hx).elim (hvd i hi).2 (fun h => by omega)⟩
  · rintro i (rfl | hi)
    · omega
    · have := hvo i hi; omega
  · rintro i (rfl | hi)
    · omega
    · exact hvo i hi
theorem openJ_ok (s : Sys w b A h) (f : Int) (k : ∀ w' h' r, Sys w' b (openJ A f).2.2 h' → Step w b h w' h' → Opened w' b h' w f r (openJ A f).1 → K (.tuple #[r, .int .i64 (openJ A f).2.1]) w') : callM Tryd.prog 49 #[dkP b, .int .i64 f] K w := by
  apply sh_49_ok
  unfold sh_49
  unfold openJ at k
  by_cases hf : f < 0 ∨ 15 < f
  · rw [if_pos hf] at k
    by_cases h0 : f < 0
    · repeat (any_goals (first
      | (with_reducible first|((refine idGd ?_); ((refine idGdD ?_); refine zJ ?_))|((refine idPick ?_); refine yD ?_)|((refine idCond ?_); refine yL ?_))
      | ((with_reducible refine idO ?_); (with_reducible refine oM_gen fun Kv hK=>?_); simp [go_sem]; refine hK _ _ ?_; clear hK; clear Kv)))
      exact k w h _ s (Step.refl _ _ _) rfl
    · have h1 : 15 < f := hf.resolve_left h0
      repeat (any_goals (first
      | (with_reducible first|refine pureM_in ?_|((refine idGd ?_); ((refine idGdD ?_); refine zI ?_))|((refine idPick ?_); refine yE ?_)|((refine idCond ?_); refine yN ?_))
      | ((with_reducible refine idO ?_); (with_reducible refine oM_gen fun Kv hK=>?_); simp [go_sem]; refine hK _ _ ?_; clear hK; clear Kv)))
      exact k w h _ s (Step.refl _ _ _) rfl
  rw [if_neg hf] at k
  have h0 : ¬ f < 0 := fun e => hf (.inl e)
  have h1 : ¬ 15 < f := fun e => hf (.inr e)
  repeat (any_goals (first
  | (with_reducible first|refine pureM_in ?_|((refine idGd ?_); ((refine idGdD ?_); refine zI ?_))|((refine idPick ?_); refine yE ?_)|((refine idCond ?_); refine yO ?_))
  | ((with_reducible refine idO ?_); (with_reducible refine oM_gen fun Kv hK=>?_); simp [go_sem]; refine hK _ _ ?_; clear hK; clear Kv)))
  refine Sync_ok s.d f (fun w1 h1' d1 t1 => ?_)
  have s1 := s.step d1 t1
  by_cases he : (syncA A f).1 = 0
  · rw [if_neg (by simp [he])] at k
    repeat (any_goals (first
    | (with_reducible ((refine idCond ?_); refine yR ?_))
    | ((with_reducible refine idO ?_); (with_reducible refine oM_gen fun Kv hK=>?_); simp [go_sem]; refine hK _ _ ?_; clear hK; clear Kv)))
    refine size_ok s1.d f ?_
    refine read_ok s1.d f 0 _ ?_
    have hrl := readA_len (syncA A f).2 f 0 ((((syncA A f).2.F f).1.length : Nat) : Int)
    have hsz := (s1.d.wf.sz f).1
    generalize (syncA A f).2 = B at *
    unfold openB at k
    generalize readA B f 0 (((B.F f).1.length : Nat) : Int) = r at *
    obtain ⟨x, e⟩ := r
    dsimp only at k hrl ⊢
    by_cases h2 : e = 0
    · rw [if_neg (by simp [h2])] at k
      repeat (any_goals (first
      | (with_reducible ((refine idCond ?_); refine yR ?_))
      | ((with_reducible refine idO ?_); (with_reducible refine oM_gen fun Kv hK=>?_); simp [go_sem]; refine hK _ _ ?_; clear hK; clear Kv)))
      refine readJ_ok x (by omega) s1.l (fun v w2 ho2 hb2 => ?_)
      have hrs := readJ_spec x
      have hrl1 := formL_len (readJ x).1
      rw [← hrs.2.1] at hrl1
      have hrl2 : (readJ x).2 ≤ x.length := by
        have := congrArg List.length hrs.2.2.1
        rw [List.length_append, ← hrs.2.1] at this
        omega
      clear hrs
      have s2 := s1.below hb2
      have t2 := t1.trans (Step.below (b := b) (h := h1') hb2)
      have hz1 := t1.fr.size
      have hvo : ∀ i, v.ownBlock = some i → w1.heap.size ≤ i := fun i hi => (owns_own ho2 hi).2.1
      have ho20 : w2.ownsRow 0 9 1 v (readJ x).1.length ((readJ x).1.map Cd.strV) := owns_zero ho2
      have hvd : ∀ i, v.ownBlock = some i → ¬ Own b h1' i ∧ ¬ Rdb h1' i := fun i hi => by
        have h3 := hvo i hi
        exact ⟨fun ho => by have := s1.d.lt (.inl ho); omega, fun ho => by have := s1.d.lt (.inr ho); omega⟩
      have hz2 := hb2.size
      have hz5 := s.l.size
      by_cases h3 : (readJ x).2 < x.length
      · rw [if_pos h3] at k
        by_cases h4 : (truncA B f (readJ x).2).1 = 0
        · rw [if_neg (by simp [h4])] at k
          repeat (any_goals ((with_reducible refine idO ?_); (with_reducible refine oM_gen fun Kv hK=>?_); simp [go_sem]; refine hK _ _ ?_; clear hK; clear Kv))
          refine ⟨fun vs W => ∃ u h', vs = [u, .pointer none, .int .i64 0] ∧ Sys W b (truncA B f (readJ x).2).2 h' ∧ Step w2 b h1' W h', ?_, ?_⟩
          · repeat (any_goals (first
            | (with_reducible ((refine idCond ?_); refine yN ?_))
            | ((with_reducible refine idO ?_); (with_reducible refine oM_gen fun Kv hK=>?_); simp [go_sem]; refine hK _ _ ?_; clear hK; clear Kv)))
            refine Trunc_ok s2.d f (readJ x).2 (fun w3 h3' d3 t3 => ?_)
            repeat (any_goals (first
            | (with_reducible ((refine idCond ?_); refine yR ?_))
            | ((with_reducible refine idO ?_); (with_reducible refine oM_gen fun Kv hK=>?_); simp [go_sem]; refine hK _ _ ?_; clear hK; clear Kv)))
            exact ⟨_, h3', rfl, s2.step d3 t3, t3⟩
          · rintro _ _ w3 ⟨u, h3', rfl, s3, t3⟩
            obtain ⟨va, vc, hve⟩ := owns_len ho20
            have hve2 := hve
            subst hve
            repeat (any_goals ((with_reducible refine idO ?_); (with_reducible refine oM_gen fun Kv hK=>?_); simp [go_sem]; refine hK _ _ ?_; clear hK; clear Kv))
            obtain ⟨s4, t4, o4⟩ := opened_new (f := f) (w0 := w) (n := (readJ x).2) s3 t3 ho20 (fun i hi => Nat.le_trans hz1 (hvo i hi)) hvd (by omega) (by omega) ⟨hrl1, by omega⟩
            exact k _ h3' _ s4 (t2.trans t4) o4
        · rw [if_pos h4] at k
          repeat (any_goals ((with_reducible refine idO ?_); (with_reducible refine oM_gen fun Kv hK=>?_); simp [go_sem]; refine hK _ _ ?_; clear hK; clear Kv))
          refine ⟨fun _ _ => False, ?_, fun _ _ _ h => h.elim⟩
          repeat (any_goals (first
          | (with_reducible ((refine idCond ?_); refine yN ?_))
          | ((with_reducible refine idO ?_); (with_reducible refine oM_gen fun Kv hK=>?_); simp [go_sem]; refine hK _ _ ?_; clear hK; clear Kv)))
          refine Trunc_ok s2.d f (readJ x).2 (fun w3 h3' d3 t3 => ?_)
          repeat (any_goals (first
          | (with_reducible ((refine idCond ?_); refine yQ ?_))
          | ((with_reducible refine idO ?_); (with_reducible refine oM_gen fun Kv hK=>?_); simp [go_sem]; refine hK _ _ ?_; clear hK; clear Kv)))
          exact k w3 h3' _ (s2.step d3 t3) (t2.trans t3) rfl
      · rw [if_neg h3] at k
        repeat (any_goals ((with_reducible refine idO ?_); (with_reducible refine oM_gen fun Kv hK=>?_); simp [go_sem]; refine hK _ _ ?_; clear hK; clear Kv))
        refine ⟨fun vs W => ∃ u h', vs = [u, .pointer none, .int .i64 0] ∧ Sys W b B h' ∧ Step w2 b h1' W h', ?_, ?_⟩
        · repeat (any_goals (first
          | (with_reducible ((refine idCond ?_); refine yO ?_))
          | ((with_reducible refine idO ?_); (with_reducible refine oM_gen fun Kv hK=>?_); simp [go_sem]; refine hK _ _ ?_; clear hK; clear Kv)))
          exact ⟨_, h1', rfl, s2, Step.refl _ _ _⟩
        · rintro _ _ w3 ⟨u, h3', rfl, s3, t3⟩
          obtain ⟨va, vc, hve⟩ := owns_len ho20
          subst hve
          repeat (any_goals ((with_reducible refine idO ?_); (with_reducible refine oM_gen fun Kv hK=>?_); simp [go_sem]; refine hK _ _ ?_; clear hK; clear Kv))
          obtain ⟨s4, t4, o4⟩ := opened_new (f := f) (w0 := w) (n := (readJ x).2) s3 t3 ho20 (fun i hi => Nat.le_trans hz1 (hvo i hi)) hvd (by omega) (by omega) ⟨hrl1, by omega⟩
          exact k _ h3' _ s4 (t2.trans t4) o4
    · rw [if_pos h2] at k
      repeat (any_goals (first
      | (with_reducible ((refine idCond ?_); refine yQ ?_))
      | ((with_reducible refine idO ?_); (with_reducible refine oM_gen fun Kv hK=>?_); simp [go_sem]; refine hK _ _ ?_; clear hK; clear Kv)))
      exact k w1 h1' _ s1 t1 rfl
  · rw [if_pos he] at k
    repeat (any_goals (first
    | (with_reducible ((refine idCond ?_); refine yQ ?_))
    | ((with_reducible refine idO ?_); (with_reducible refine oM_gen fun Kv hK=>?_); simp [go_sem]; refine hK _ _ ?_; clear hK; clear Kv)))
    exact k w1 h1' _ s1 t1 rfl
end
end Go.Proofs
namespace Go.Proofs.Cd
open Go Go.Sh Go.RowKit Go.Lib CodeSpec Go.Proofs
set_option linter.unusedSimpArgs false
set_option maxRecDepth 10000
set_option maxHeartbeats 1600000 in
theorem sameTexts_ok (xs ys : List (List UInt8)) (v u : Value) {K : Value → World → Prop} {w : World} (hv : RowOf strV w v xs) (hu : RowOf strV w u ys) (hx : xs.length < 2^60) (hy : ys.length < 2^60) (k : ∀ w', Below w.heap.size w w' → K (.bool (decide (xs = ys))) w') : callM Tryd.prog 40 #[v, u] K w := by
  apply sh_40_ok
  unfold sh_40
  obtain ⟨a, c, rfl, hv⟩ := hv
  obtain ⟨a', c', rfl, hu⟩ := hu
  have kno : ∀ w', Below w.heap.size w w' → xs ≠ ys → K (.bool false) w' := fun w' hb hne => K_eq (k w' hb) (by rw [decide_eq_false hne])
  repeat (any_goals (first
  | (with_reducible refine pureM_in ?_)
  | (with_reducible first|refine pureQ_in ?_|refine gdQ_conv (fun _ => ?_)|refine pickQT ?_|refine pickQF ?_|refine pickQ_pos (by first|assumption|omega) ?_|refine pickQ_neg (by first|assumption|omega) ?_|refine pickQn_pos (by first|assumption|omega) ?_|refine pickQn_neg (by first|assumption|omega) ?_) | ((with_reducible refine oQ_one ?_ ?_); exact ⟨_, rfl⟩) | (with_reducible first|refine And.intro (Eq.refl (α := World) _) ?_|refine forall_one ?_|refine oQ_nil ?_) | (with_reducible refine oQ_of ⟨_, rfl⟩ (fun W0 hW0 => by (refine oM_gen (fun Kv hK => ?_)); simp [go_sem]; (first | exact hK _ _ ⟨rfl, rfl⟩ | exact ⟨by omega, hK _ _ ⟨rfl, rfl⟩⟩)) ?_)
  | (with_reducible first|refine gdtT ?_|refine gdtF ?_|refine gdfF ?_|refine gdfT ?_|refine gdu ?_ _|refine gdt_pos (by first|assumption|omega) ?_|refine gdt_neg (by first|assumption|omega) ?_|refine gdt_split (fun hg => ?_) (fun hg => ?_)|refine gdf_pos (by first|assumption|omega) ?_|refine gdf_neg (by first|assumption|omega) ?_|refine gdf_split (fun hg => ?_) (fun hg => ?_)|refine gdtn_pos (by first|assumption|omega) ?_|refine gdtn_neg (by first|assumption|omega) ?_|refine gdtn_split (fun hg => ?_) (fun hg => ?_)|refine gdfn_pos (by first|assumption|omega) ?_|refine gdfn_neg (by first|assumption|omega) ?_|refine gdfn_split (fun hg => ?_) (fun hg => ?_)|refine gdtbn_pos (by assumption) ?_|refine gdtbn_neg (by assumption) ?_|refine gdfbn_pos (by assumption) ?_|refine gdfbn_neg (by assumption) ?_|refine gdtb_pos (by assumption) ?_|refine gdtb_neg (by assumption) ?_|refine gdtb_split (fun hg => ?_) (fun hg => ?_)|refine gdfb_pos (by assumption) ?_|refine gdfb_neg (by assumption) ?_|refine gdfb_split (fun hg => ?_) (fun hg => ?_)|refine pickT ?_|refine pickF ?_|refine pick_pos (by first|assumption|omega) ?_|refine pick_neg (by first|assumption|omega) ?_|refine pickn_pos (by first|assumption|omega) ?_|refine pickn_neg (by first|assumption|omega) ?_|refine pickbn_pos (by assumption) ?_|refine pickbn_neg (by assumption) ?_|refine pickb_pos (by assumption) ?_|refine pickb_neg (by assumption) ?_|refine condT ?_|refine condF ?_|refine cond_pos (by first|assumption|omega) ?_|refine cond_neg (by first|assumption|omega) ?_|refine condM_dec (fun hg => ?_) (fun hg => ?_)|refine condn_pos (by first|assumption|omega) ?_|refine condn_neg (by first|assumption|omega) ?_|refine condM_ndec (fun hg => ?_) (fun hg => ?_)|refine condbn_pos (by assumption) ?_|refine condbn_neg (by assumption) ?_|refine condbn_split (fun hg => ?_) (fun hg => ?_)|refine condb_pos (by assumption) ?_|refine condb_neg (by assumption) ?_|refine condM_b (fun hg => ?_) (fun hg => ?_))
  | ((with_reducible refine oM_gen (fun Kv hK => ?_)); simp [go_sem]; (try simp (disch := omega) only [wrapI64, wrapU8, wrapU32, wrapU64]); (first | refine hK _ _ ?_ | refine And.intro (by omega) (hK _ _ ?_)); clear hK; clear Kv)))
  · refine ⟨fun l w' => ∃ k : Nat, l = [.bool false, .int .i64 k] ∧ k ≤ xs.length ∧ Below w.heap.size w w' ∧ xs.take k = ys.take k, fun l _ => xs.length - (match l with | [_, .int _ n] => n.toNat | _ => 0), ⟨0, rfl, by omega, Below.refl _ _, by simp⟩, ?_⟩
    rintro _ _ w1 ⟨j, rfl, hj, hb, hpre⟩
    simp only [List.getD_cons_zero, List.getD_cons_succ]
    have hlm : xs.length = ys.length := by omega
    by_cases hlt : j < xs.length
    · have hltm : j < ys.length := by omega
      rcases hv with rfl | ⟨b, o, rfl, hbw, hcells⟩
      · simp at hlt
      rcases hu with rfl | ⟨b', o', rfl, hbw', hcells'⟩
      · simp at hltm
      have h0 := hcells j hlt
      have g0 := hcells' j hltm
      rw [← hb.cell hbw] at h0
      rw [← hb.cell hbw'] at g0
      simp only [strV] at h0 g0
      obtain ⟨w2, hw2⟩ : ∃ w2, w2 = { w1 with drawn := w1.drawn + 1 } := ⟨_, rfl⟩
      have hce : ∀ p, w2.cell? p = w1.cell? p := by rw [hw2]; exact fun _ => rfl
      rw [← hce] at h0 g0
      have d1 := idx23 (b := b) (o := o) (c := c) hlt w2
      have e1 := idx23 (b := b') (o := o') (c := c') hltm w2
      have hb2 : Below w.heap.size w w2 := by rw [hw2]; exact hb.drew
      repeat (any_goals (first
      | (with_reducible refine pureM_in ?_)
      | (with_reducible first|refine pureQ_in ?_|refine gdQ_conv (fun _ => ?_)|refine pickQT ?_|refine pickQF ?_|refine pickQ_pos (by first|assumption|omega) ?_|refine pickQ_neg (by first|assumption|omega) ?_|refine pickQn_pos (by first|assumption|omega) ?_|refine pickQn_neg (by first|assumption|omega) ?_) | ((with_reducible refine oQ_one ?_ ?_); exact ⟨_, rfl⟩) | (with_reducible first|refine And.intro (Eq.refl (α := World) _) ?_|refine forall_one ?_|refine oQ_nil ?_) | (with_reducible refine oQ_of ⟨_, rfl⟩ (fun W0 hW0 => by (refine oM_gen (fun Kv hK => ?_)); simp [go_sem]; (first | exact hK _ _ ⟨rfl, rfl⟩ | exact ⟨by omega, hK _ _ ⟨rfl, rfl⟩⟩)) ?_)
      | (with_reducible first|refine gdtT ?_|refine gdtF ?_|refine gdfF ?_|refine gdfT ?_|refine gdu ?_ _|refine gdt_pos (by first|assumption|omega) ?_|refine gdt_neg (by first|assumption|omega) ?_|refine gdt_split (fun hg => ?_) (fun hg => ?_)|refine gdf_pos (by first|assumption|omega) ?_|refine gdf_neg (by first|assumption|omega) ?_|refine gdf_split (fun hg => ?_) (fun hg => ?_)|refine gdtn_pos (by first|assumption|omega) ?_|refine gdtn_neg (by first|assumption|omega) ?_|refine gdtn_split (fun hg => ?_) (fun hg => ?_)|refine gdfn_pos (by first|assumption|omega) ?_|refine gdfn_neg (by first|assumption|omega) ?_|refine gdfn_split (fun hg => ?_) (fun hg => ?_)|refine gdtbn_pos (by assumption) ?_|refine gdtbn_neg (by assumption) ?_|refine gdfbn_pos (by assumption) ?_|refine gdfbn_neg (by assumption) ?_|refine gdtb_pos (by assumption) ?_|refine gdtb_neg (by assumption) ?_|refine gdtb_split (fun hg => ?_) (fun hg => ?_)|refine gdfb_pos (by assumption) ?_|refine gdfb_neg (by assumption) ?_|refine gdfb_split (fun hg => ?_) (fun hg => ?_)|refine pickT ?_|refine pickF ?_|refine pick_pos (by first|assumption|omega) ?_|refine pick_neg (by first|assumption|omega) ?_|refine pickn_pos (by first|assumption|omega) ?_|refine pickn_neg (by first|assumption|omega) ?_|refine pickbn_pos (by assumption) ?_|refine pickbn_neg (by assumption) ?_|refine pickb_pos (by assumption) ?_|refine pickb_neg (by assumption) ?_|refine condT ?_|refine condF ?_|refine cond_pos (by first|assumption|omega) ?_|refine cond_neg (by first|assumption|omega) ?_|refine condM_dec (fun hg => ?_) (fun hg => ?_)|refine condn_pos (by first|assumption|omega) ?_|refine condn_neg (by first|assumption|omega) ?_|refine condM_ndec (fun hg => ?_) (fun hg => ?_)|refine condbn_pos (by assumption) ?_|refine condbn_neg (by assumption) ?_|refine condbn_split (fun hg => ?_) (fun hg => ?_)|refine condb_pos (by assumption) ?_|refine condb_neg (by assumption) ?_|refine condM_b (fun hg => ?_) (fun hg => ?_))
      | ((with_reducible refine oM_gen (fun Kv hK => ?_)); simp [go_sem]; (try simp (disch := omega) only [wrapI64, wrapU8, wrapU32, wrapU64]); (first | refine hK _ _ ?_ | refine And.intro (by omega) (hK _ _ ?_)); clear hK; clear Kv)))
      refine quietM_one ?_
      rw [← hw2]
      repeat (any_goals (first
      | (with_reducible refine pureM_in ?_)
      | (with_reducible first|refine pureQ_in ?_|refine gdQ_conv (fun _ => ?_)|refine pickQT ?_|refine pickQF ?_|refine pickQ_pos (by first|assumption|omega) ?_|refine pickQ_neg (by first|assumption|omega) ?_|refine pickQn_pos (by first|assumption|omega) ?_|refine pickQn_neg (by first|assumption|omega) ?_) | ((with_reducible refine oQ_one ?_ ?_); exact ⟨_, rfl⟩) | (with_reducible first|refine And.intro (Eq.refl (α := World) _) ?_|refine forall_one ?_|refine oQ_nil ?_) | (with_reducible refine oQ_of ⟨_, rfl⟩ (fun W0 hW0 => by (refine oM_gen (fun Kv hK => ?_)); simp [go_sem]; (first | exact hK _ _ ⟨rfl, rfl⟩ | exact ⟨by omega, hK _ _ ⟨rfl, rfl⟩⟩)) ?_)
      | (rw [oM_indexAddr, d1, rM_ok]) | (rw [oM_indexAddr, e1, rM_ok])
      | (with_reducible first|refine gdtT ?_|refine gdtF ?_|refine gdfF ?_|refine gdfT ?_|refine gdu ?_ _|refine gdt_pos (by first|assumption|omega) ?_|refine gdt_neg (by first|assumption|omega) ?_|refine gdt_split (fun hg => ?_) (fun hg => ?_)|refine gdf_pos (by first|assumption|omega) ?_|refine gdf_neg (by first|assumption|omega) ?_|refine gdf_split (fun hg => ?_) (fun hg => ?_)|refine gdtn_pos (by first|assumption|omega) ?_|refine gdtn_neg (by first|assumption|omega) ?_|refine gdtn_split (fun hg => ?_) (fun hg => ?_)|refine gdfn_pos (by first|assumption|omega) ?_|refine gdfn_neg (by first|assumption|omega) ?_|refine gdfn_split (fun hg => ?_) (fun hg => ?_)|refine gdtbn_pos (by assumption) ?_|refine gdtbn_neg (by assumption) ?_|refine gdfbn_pos (by assumption) ?_|refine gdfbn_neg (by assumption) ?_|refine gdtb_pos (by assumption) ?_|refine gdtb_neg (by assumption) ?_|refine gdtb_split (fun hg => ?_) (fun hg => ?_)|refine gdfb_pos (by assumption) ?_|refine gdfb_neg (by assumption) ?_|refine gdfb_split (fun hg => ?_) (fun hg => ?_)|refine pickT ?_|refine pickF ?_|refine pick_pos (by first|assumption|omega) ?_|refine pick_neg (by first|assumption|omega) ?_|refine pickn_pos (by first|assumption|omega) ?_|refine pickn_neg (by first|assumption|omega) ?_|refine pickbn_pos (by assumption) ?_|refine pickbn_neg (by assumption) ?_|refine pickb_pos (by assumption) ?_|refine pickb_neg (by assumption) ?_|refine condT ?_|refine condF ?_|refine cond_pos (by first|assumption|omega) ?_|refine cond_neg (by first|assumption|omega) ?_|refine condM_dec (fun hg => ?_) (fun hg => ?_)|refine condn_pos (by first|assumption|omega) ?_|refine condn_neg (by first|assumption|omega) ?_|refine condM_ndec (fun hg => ?_) (fun hg => ?_)|refine condbn_pos (by assumption) ?_|refine condbn_neg (by assumption) ?_|refine condbn_split (fun hg => ?_) (fun hg => ?_)|refine condb_pos (by assumption) ?_|refine condb_neg (by assumption) ?_|refine condM_b (fun hg => ?_) (fun hg => ?_))
      | ((with_reducible refine oM_gen (fun Kv hK => ?_)); simp [go_sem, h0, g0]; (try simp (disch := omega) only [wrapI64, wrapU8, wrapU32, wrapU64]); (first | refine hK _ _ ?_ | refine And.intro (by omega) (hK _ _ ?_)); clear hK; clear Kv)))
      all_goals first
        | (refine kno _ hb2 (fun e => ?_)
           have e3 := congrArg (fun l => l[j]?) e
           simp only [List.getElem?_eq_getElem hlt, List.getElem?_eq_getElem hltm, Option.some.injEq] at e3
           exact hg e3)
        | (refine ⟨⟨j + 1, rfl, hlt, hb2, ?_⟩, by simp; omega⟩
           rw [List.take_add_one, List.take_add_one, List.getElem?_eq_getElem hlt, List.getElem?_eq_getElem hltm, hpre]
           congr 2; rw [hg])
    · obtain rfl : j = xs.length := by omega
      rw [List.take_length, hlm, List.take_length] at hpre
      repeat (any_goals (first
      | (with_reducible refine pureM_in ?_)
      | (with_reducible first|refine pureQ_in ?_|refine gdQ_conv (fun _ => ?_)|refine pickQT ?_|refine pickQF ?_|refine pickQ_pos (by first|assumption|omega) ?_|refine pickQ_neg (by first|assumption|omega) ?_|refine pickQn_pos (by first|assumption|omega) ?_|refine pickQn_neg (by first|assumption|omega) ?_) | ((with_reducible refine oQ_one ?_ ?_); exact ⟨_, rfl⟩) | (with_reducible first|refine And.intro (Eq.refl (α := World) _) ?_|refine forall_one ?_|refine oQ_nil ?_) | (with_reducible refine oQ_of ⟨_, rfl⟩ (fun W0 hW0 => by (refine oM_gen (fun Kv hK => ?_)); simp [go_sem]; (first | exact hK _ _ ⟨rfl, rfl⟩ | exact ⟨by omega, hK _ _ ⟨rfl, rfl⟩⟩)) ?_)
      | (with_reducible first|refine gdtT ?_|refine gdtF ?_|refine gdfF ?_|refine gdfT ?_|refine gdu ?_ _|refine gdt_pos (by first|assumption|omega) ?_|refine gdt_neg (by first|assumption|omega) ?_|refine gdt_split (fun hg => ?_) (fun hg => ?_)|refine gdf_pos (by first|assumption|omega) ?_|refine gdf_neg (by first|assumption|omega) ?_|refine gdf_split (fun hg => ?_) (fun hg => ?_)|refine gdtn_pos (by first|assumption|omega) ?_|refine gdtn_neg (by first|assumption|omega) ?_|refine gdtn_split (fun hg => ?_) (fun hg => ?_)|refine gdfn_pos (by first|assumption|omega) ?_|refine gdfn_neg (by first|assumption|omega) ?_|refine gdfn_split (fun hg => ?_) (fun hg => ?_)|refine gdtbn_pos (by assumption) ?_|refine gdtbn_neg (by assumption) ?_|refine gdfbn_pos (by assumption) ?_|refine gdfbn_neg (by assumption) ?_|refine gdtb_pos (by assumption) ?_|refine gdtb_neg (by assumption) ?_|refine gdtb_split (fun hg => ?_) (fun hg => ?_)|refine gdfb_pos (by assumption) ?_|refine gdfb_neg (by assumption) ?_|refine gdfb_split (fun hg => ?_) (fun hg => ?_)|refine pickT ?_|refine pickF ?_|refine pick_pos (by first|assumption|omega) ?_|refine pick_neg (by first|assumption|omega) ?_|refine pickn_pos (by first|assumption|omega) ?_|refine pickn_neg (by first|assumption|omega) ?_|refine pickbn_pos (by assumption) ?_|refine pickbn_neg (by assumption) ?_|refine pickb_pos (by assumption) ?_|refine pickb_neg (by assumption) ?_|refine condT ?_|refine condF ?_|refine cond_pos (by first|assumption|omega) ?_|refine cond_neg (by first|assumption|omega) ?_|refine condM_dec (fun hg => ?_) (fun hg => ?_)|refine condn_pos (by first|assumption|omega) ?_|refine condn_neg (by first|assumption|omega) ?_|refine condM_ndec (fun hg => ?_) (fun hg => ?_)|refine condbn_pos (by assumption) ?_|refine condbn_neg (by assumption) ?_|refine condbn_split (fun hg => ?_) (fun hg => ?_)|refine condb_pos (by assumption) ?_|refine condb_neg (by assumption) ?_|refine condM_b (fun hg => ?_) (fun hg => ?_))
      | ((with_reducible refine oM_gen (fun Kv hK => ?_)); simp [go_sem]; (try simp (disch := omega) only [wrapI64, wrapU8, wrapU32, wrapU64]); (first | refine hK _ _ ?_ | refine And.intro (by omega) (hK _ _ ?_)); clear hK; clear Kv)))
      exact K_eq (k w1 hb) (by rw [decide_eq_true hpre])
  · exact kno w (Below.refl _ _) (fun e => by have := congrArg List.length e; omega)
end Go.Proofs.Cd
namespace JnSpec
open CodeSpec DkSpec
def sA1 : Ab := (openJ newA 3).2.2
def sJ2 : Int × Ab × Jn := appendJ sA1 3 ⟨[], 0, false⟩ [97, 98]
def sJ3 : Int × Ab × Jn := appendJ sJ2.2.1 3 sJ2.2.2 []
def sA5 : Ab := (writeA sJ3.2.1 4 0 [50, 58, 97, 98, 44, 50, 57, 51, 59, 49, 58, 97, 44, 57, 56, 59]).2
def sJ6 : Option Jn × Int × Ab := openJ sA5 4
theorem sane1 : (openJ newA 3).1 = some ⟨[], 0, false⟩ ∧ (openJ newA 3).2.1 = 0 := by constructor <;> kernel_rfl
theorem sane2 : sJ2.1 = 0 := by kernel_rfl
theorem sane3 : sJ3.1 = 0 ∧ sJ3.2.2 = ⟨[[97, 98], []], 14, false⟩ := by constructor <;> kernel_rfl
theorem sane4 : readA sJ3.2.1 3 0 99 = ([50, 58, 97, 98, 44, 50, 57, 51, 59, 48, 58, 44, 48, 59], 0) := by kernel_rfl
theorem sane6 : sJ6.1 = some ⟨[[97, 98]], 9, false⟩ ∧ sJ6.2.1 = 0 ∧ (sJ6.2.2.F 4).1.length = 9 := by
  refine ⟨?_, ?_, ?_⟩ <;> kernel_rfl
theorem saneS : sumR [] = 0 ∧ sumR [97] = 97 ∧ sumR [97, 98] = 293 := by decide
end JnSpec
namespace Go.Proofs
open Go Go.Sh Go.RowKit CodeSpec JnSpec DkSpec
set_option linter.unusedSimpArgs false
set_option linter.unusedVariables false
set_option maxRecDepth 10000
section
variable {w : World} {K : Value → World → Prop}
@[go_sem] theorem nilD (T : TypeId) (a : Addr) : oM Tryd.prog (.binOp .eql 51 (.tmp 0) (.const (.pointer none)) 51) T [.pointer (some a)] K w = K (.bool false) w := by
  refine propext ⟨fun h => h, fun h => h⟩
@[go_sem] theorem nilJ (T : TypeId) (a : Addr) : oM Tryd.prog (.binOp .eql 53 (.tmp 0) (.const (.pointer none)) 53) T [.pointer (some a)] K w = K (.bool false) w := by
  refine propext ⟨fun h => h, fun h => h⟩
@[go_sem] theorem nilJn (T : TypeId) : oM Tryd.prog (.binOp .eql 53 (.tmp 0) (.const (.pointer none)) 53) T [.pointer none] K w = K (.bool true) w := by
  refine propext ⟨fun h => h, fun h => h⟩
end
section
variable {w w' w2 : World} {b p : Nat} {A A' : Ab} {h h' h2 : Dk} {f : Int} {j j' : Jn} {v v' v2 : Value} {K : Value → World → Prop}
theorem below_of_fr (g : Fr (fun _ => False) w w') : Below w.heap.size w w' := ⟨g.os, g.tape, g.output, g.size, fun i hi => g.block i hi (fun h => h)⟩
theorem below_of_step {B : Nat} (t : Step w b h w' h') (ho : ∀ i, Own b h i → B ≤ i) (hB : B ≤ w.heap.size) : Below B w w' := ⟨t.fr.os, t.fr.tape, t.fr.output, t.fr.size, fun i hi => t.fr.block i (by omega) (fun hx => by have := ho i hx; omega)⟩
theorem own_step {B : Nat} (t : Step w b h w' h') (ho : ∀ i, Own b h i → B ≤ i) (hB : B ≤ w.heap.size) : ∀ i, Own b h' i → B ≤ i := fun i hi => (t.own i hi).elim (ho i) (fun h => by omega)
theorem below_of_jst {B : Nat} (t : JSt w b h p v w' h' v') (ho : ∀ i, Own b h i → B ≤ i) (hj : ∀ i, JO p v i → B ≤ i) (hB : B ≤ w.heap.size) : Below B w w' := ⟨t.fr.os, t.fr.tape, t.fr.output, t.fr.size, fun i hi => t.fr.block i (by omega) (fun hx => hx.elim (fun hx => by have := ho i hx; omega) (fun hx => by have := hj i hx; omega))⟩
theorem newSys_ok (hl : Cd.Laid w) (k : ∀ w' b h, Sys w' b newA h → Below w.heap.size w w' → (∀ i, Own b h i → w.heap.size ≤ i) → K (dkP b) w') : callM Tryd.prog 48 #[] K w := by
  refine new_ok (fun w' b h d fr ho hr => k w' b h ⟨d, hl.below (below_of_fr fr) hl.size, fun i hi => Nat.le_trans hl.size (ho i hi)⟩ (below_of_fr fr) ho)
theorem sane_ok (hl : Cd.Laid w) (k : ∀ w', Below w.heap.size w w' → K (.bool true) w') : callM Tryd.prog 46 #[] K w := by
  apply sh_46_ok
  unfold sh_46
  refine newSys_ok hl (fun w1 b h1 s1 b1 o1 => ?_)
  repeat (any_goals (first
  | (with_reducible ((refine idCond ?_); refine yM ?_))
  | ((with_reducible refine idO ?_); (with_reducible refine oM_gen fun Kv hK=>?_); simp [go_sem]; refine hK _ _ ?_; clear hK; clear Kv)))
  refine openJ_ok s1 3 (fun w2 h2 r s2 t2 o2 => ?_)
  rw [sane1.1] at o2
  rw [sane1.2]
  obtain ⟨p, v, rfl, jn2, hj2⟩ := o2
  repeat (any_goals (first
  | (with_reducible ((refine idCond ?_); refine yM ?_))
  | ((with_reducible refine idO ?_); (with_reducible refine oM_gen fun Kv hK=>?_); simp [go_sem]; refine hK _ _ ?_; clear hK; clear Kv)))
  refine append_ok s2 jn2 (by omega) [97, 98] (by decide) (fun w3 h3 v3 s3 jn3 t3 => ?_)
  have t03 := (JSt.of_step t2).trans t3
  change Sys w3 b sJ2.2.1 h3 at s3
  change IsJn w3 b h3 p 3 sJ2.2.2 v3 at jn3
  refine append_ok s3 jn3 (by omega) [] (by decide) (fun w4 h4 v4 s4 jn4 t4 => ?_)
  change Sys w4 b sJ3.2.1 h4 at s4
  change IsJn w4 b h4 p 3 sJ3.2.2 v4 at jn4
  refine read_ok s4.d 3 0 99 ?_
  rw [sane4]
  repeat (any_goals ((with_reducible refine idO ?_); (with_reducible refine oM_gen fun Kv hK=>?_); simp [go_sem]; refine hK _ _ ?_; clear hK; clear Kv))
  refine Write_ok s4.d 4 0 [50, 58, 97, 98, 44, 50, 57, 51, 59, 49, 58, 97, 44, 57, 56, 59] (by decide) (by omega) (fun w5 h5 d5 t5 => ?_)
  have s5 := s4.step d5 t5
  have jn5 := jn4.step t5
  refine openJ_ok s5 4 (fun w6 h6 r s6 t6 o6 => ?_)
  change Opened w6 b h6 w5 4 r sJ6.1 at o6
  change Sys w6 b sJ6.2.2 h6 at s6
  have e62 : (openJ (writeA sJ3.2.1 4 0 [50, 58, 97, 98, 44, 50, 57, 51, 59, 49, 58, 97, 44, 57, 56, 59]).2 4).2.1 = 0 := sane6.2.1
  rw [sane6.1] at o6
  rw [e62]
  obtain ⟨q, u, rfl, jn6, hj6⟩ := o6
  have e21 : (appendJ (openJ newA 3).2.2 3 ⟨[], 0, false⟩ [97, 98]).1 = 0 := sane2
  have e31 : (appendJ sJ2.2.1 3 sJ2.2.2 []).1 = 0 := sane3.1
  rw [e21, e31]
  have jp6 := jn5.step t6
  rw [sane3.2] at jp6
  have t06 : JSt w2 b h2 p v w6 h6 v4 := t3.trans (t4.trans ((JSt.of_step t5).trans (JSt.of_step t6)))
  have bb2 : Below w.heap.size w1 w2 := below_of_step t2 o1 b1.size
  have ho2 := own_step t2 o1 b1.size
  have bb6 : Below w.heap.size w2 w6 := below_of_jst t06 ho2 (fun i hi => Nat.le_trans b1.size (hj2 i hi)) (Nat.le_trans b1.size bb2.size)
  have bb := b1.trans (bb2.trans bb6)
  repeat (any_goals (first
  | (with_reducible ((refine idCond ?_); refine yM ?_))
  | ((with_reducible refine idO ?_); (with_reducible refine oM_gen fun Kv hK=>?_); simp [go_sem]; refine hK _ _ ?_; clear hK; clear Kv)))
  refine Sum_ok [] (by decide) ?_
  rw [saneS.1]
  repeat (any_goals (first
  | (with_reducible ((refine idGd ?_); refine zA ?_))
  | ((with_reducible refine idO ?_); (with_reducible refine oM_gen fun Kv hK=>?_); simp [go_sem]; refine hK _ _ ?_; clear hK; clear Kv)))
  refine Sum_ok [97] (by decide) ?_
  rw [saneS.2.1]
  repeat (any_goals (first
  | (with_reducible first|((refine idGd ?_); refine zA ?_)|((refine idPick ?_); refine yB ?_))
  | ((with_reducible refine idO ?_); (with_reducible refine oM_gen fun Kv hK=>?_); simp [go_sem]; refine hK _ _ ?_; clear hK; clear Kv)))
  refine Sum_ok [97, 98] (by decide) ?_
  rw [saneS.2.2]
  repeat (any_goals (first
  | (with_reducible first|refine pureM_in ?_|((refine idGd ?_); refine zA ?_)|((refine idPick ?_); refine yB ?_))
  | ((with_reducible refine idO ?_); (with_reducible refine oM_gen fun Kv hK=>?_); simp [go_sem]; refine hK _ _ ?_; clear hK; clear Kv)))
  refine len_ok jp6 ?_
  repeat (any_goals (first
  | (with_reducible first|refine pureM_in ?_|((refine idGd ?_); refine zA ?_)|((refine idPick ?_); refine yB ?_))
  | ((with_reducible refine idO ?_); (with_reducible refine oM_gen fun Kv hK=>?_); simp [go_sem]; refine hK _ _ ?_; clear hK; clear Kv)))
  refine get_ok jp6 0 ?_
  repeat (any_goals (first
  | (with_reducible first|refine pureM_in ?_|((refine idGd ?_); refine zA ?_)|((refine idPick ?_); refine yB ?_))
  | ((with_reducible refine idO ?_); (with_reducible refine oM_gen fun Kv hK=>?_); simp [go_sem]; refine hK _ _ ?_; clear hK; clear Kv)))
  refine all_ok jn6 (fun av w7 ho7 b7 => ?_)
  repeat (any_goals (first
  | (with_reducible ((refine idGd ?_); refine zA ?_))
  | ((with_reducible refine idO ?_); (with_reducible refine oM_gen fun Kv hK=>?_); simp [go_sem]; refine hK _ _ ?_; clear hK; clear Kv)))
  have hb8 : Below w7.heap.size w7 (w7.alloc (.cells #[.string ⟨#[97, 98]⟩] 9)) := (Below.refl _ _).alloc (Nat.le_refl _) _
  have hn8 := heap_alloc_new w7 (.cells #[.string ⟨#[97, 98]⟩] 9)
  have hlt8 : w7.heap.size < (w7.alloc (.cells #[.string ⟨#[97, 98]⟩] 9)).heap.size := by rw [alloc_size]; omega
  generalize w7.alloc (.cells #[.string ⟨#[97, 98]⟩] 9) = w8 at *
  have r7 : Cd.RowOf Cd.strV w8 av [[97, 98]] := (Cd.RowOf.of_owns ho7).below hb8
  have r8 : Cd.RowOf Cd.strV w8 (.slice (some ⟨w7.heap.size, 0, none⟩) 1 1) [[97, 98]] := ⟨_, 1, rfl, .inr ⟨_, 0, rfl, hlt8, fun i hi => by
    rw [cell_of_block hn8]
    match i, hi with
    | 0, _ => rfl⟩⟩
  refine Cd.sameTexts_ok _ _ _ _ r7 r8 (by decide) (by decide) (fun w9 b9 => ?_)
  simp only [decide_true]
  have s9 := ((s6.below b7).below hb8).below b9
  repeat (any_goals (with_reducible first|refine pureM_in ?_|((refine idGd ?_); refine zA ?_)|((refine idPick ?_); refine yB ?_)))
  refine size_ok s9.d 4 ?_
  have e63 : (sJ6.2.2.F 4).1.length = 9 := sane6.2.2
  rw [e63]
  repeat (any_goals (first
  | (with_reducible first|((refine idGd ?_); refine zA ?_)|((refine idPick ?_); refine yB ?_))
  | ((with_reducible refine idO ?_); (with_reducible refine oM_gen fun Kv hK=>?_); simp [go_sem]; refine hK _ _ ?_; clear hK; clear Kv)))
  refine k _ ?_
  have z1 := b1.size
  have z2 := bb2.size
  have z6 := bb6.size
  have z7 := b7.size
  have z8 := hb8.size
  exact bb.trans ((b7.mono (by omega)).trans ((hb8.mono (by omega)).trans (b9.mono (by omega))))
end
end Go.Proofs
namespace Go.Proofs
open Go Go.Sh Go.RowKit CodeSpec JnSpec DkSpec
set_option linter.unusedSimpArgs false
set_option linter.unusedVariables false
set_option maxRecDepth 10000
attribute [local go_sem] oM_indexAddr
section
variable {w w' w2 : World} {b p : Nat} {A A' : Ab} {h h' h2 : Dk} {f : Int} {j j' : Jn} {v v' v2 : Value} {K : Value → World → Prop}
def Longs (l : List Bs) : Prop := l.length ≤ 8 ∧ ∀ t ∈ l, t.length ≤ 20000
theorem oneLong_ok {l : List Bs} (hr : Cd.RowOf Cd.strV w v l) (hl : l.length ≤ 9223372036854775807) (k : ∀ r : Bool, (r = true → Longs l) → K (.bool r) w) : callM Tryd.prog 47 #[v] K w := by
  apply sh_47_ok
  unfold sh_47
  obtain ⟨a, c, rfl, hc⟩ := hr
  refine ⟨fun vs W => ∃ (m : Int) (i : Nat), vs = [.bool false, .int .i64 m, .int .i64 (i : Int)] ∧ i ≤ l.length ∧ i ≤ 9 ∧ 0 ≤ m ∧ m ≤ i ∧ (∀ t ∈ l.take i, t.length ≤ 20000) ∧ W = w, fun vs _ => match vs with | [_, _, .int _ n] => l.length - n.toNat | _ => 0, ⟨0, 0, rfl, by omega, by omega, by omega, by omega, by simp, rfl⟩, ?_⟩
  rintro _ _ w ⟨m, i, rfl, hi, hi9, hm, hmi, hall, rfl⟩
  simp only [List.getD_cons_zero, List.getD_cons_succ]
  by_cases hlt : i < l.length ∧ i ≤ 8
  · obtain ⟨hlt, h8⟩ := hlt
    rcases hc with hc | ⟨bx, ox, rfl, hbx, hc⟩
    · rw [hc] at hlt; simp at hlt
    have c1 := hc i hlt
    simp only [Cd.strV] at c1
    have hix := Cd.idx23 (b := bx) (o := ox) (c := c) hlt w
    have hsn : ∀ t ∈ l.take (i + 1), t ∈ l.take i ∨ t = l[i] := fun t ht => by
      rw [List.take_succ_eq_append_getElem hlt] at ht
      exact (List.mem_append.1 ht).imp id (fun h => by simpa using h)
    repeat (any_goals (first
    | (with_reducible first|refine pureM_in ?_|((refine idGd ?_); ((refine idGdD ?_); refine zF ?_))|((refine idPick ?_); refine yD ?_)|((refine idCond ?_); refine yN ?_))
    | ((with_reducible refine idO ?_); (with_reducible refine oM_gen fun Kv hK=>?_); simp [go_sem]; refine hK _ _ ?_; clear hK; clear Kv)))
    refine ⟨fun vs W => ∃ m', vs = [.bool false, .int .i64 m'] ∧ 0 ≤ m' ∧ m' ≤ i + 1 ∧ l[i].length ≤ 20000 ∧ W = w, ?_, ?_⟩
    · by_cases h2 : 20000 < l[i].length
      · repeat (any_goals (first
        | (with_reducible ((refine idCond ?_); refine yN ?_))
        | ((with_reducible refine idO ?_); (with_reducible refine oM_gen fun Kv hK=>?_); simp [go_sem, hix, c1]; refine hK _ _ ?_; clear hK; clear Kv)))
        exact k false (fun h => by cases h)
      · by_cases h3 : 200 < l[i].length
        · repeat (any_goals (first
          | (with_reducible ((refine idCond ?_); first|refine yN ?_|refine yO ?_))
          | ((with_reducible refine idO ?_); (with_reducible refine oM_gen fun Kv hK=>?_); simp [go_sem, hix, c1]; (try simp (disch := omega) only [wrapI64, wrapU8, wrapU32, wrapU64]); refine hK _ _ ?_; clear hK; clear Kv)))
          exact ⟨_, rfl, by omega, by omega, by omega, rfl⟩
        · repeat (any_goals (first
          | (with_reducible ((refine idCond ?_); refine yO ?_))
          | ((with_reducible refine idO ?_); (with_reducible refine oM_gen fun Kv hK=>?_); simp [go_sem, hix, c1]; refine hK _ _ ?_; clear hK; clear Kv)))
          exact ⟨_, rfl, by omega, by omega, by omega, rfl⟩
    · rintro _ _ w ⟨m', rfl, hm0, hm1, hlen, rfl⟩
      simp only [List.getD_cons_zero, List.getD_cons_succ]
      repeat (any_goals ((with_reducible refine idO ?_); (with_reducible refine oM_gen fun Kv hK=>?_); simp [go_sem]; (try simp (disch := omega) only [wrapI64, wrapU8, wrapU32, wrapU64]); refine hK _ _ ?_; clear hK; clear Kv))
      refine ⟨⟨m', i + 1, rfl, by omega, by omega, hm0, by omega, fun t ht => ?_, rfl⟩, by simp; omega⟩
      rcases hsn t ht with h | h
      · exact hall t h
      · rw [h]; exact hlen
  · by_cases hle : l.length ≤ 8
    · obtain rfl : i = l.length := by omega
      have hL : Longs l := ⟨hle, fun t ht => hall t (by rw [List.take_length]; exact ht)⟩
      by_cases h1 : m ≤ 1
      · repeat (any_goals (first
        | (with_reducible first|refine pureM_in ?_|((refine idGd ?_); first|refine zB ?_|((refine idGdD ?_); refine zF ?_))|((refine idPick ?_); first|refine yC ?_|refine yD ?_)|((refine idCond ?_); refine yM ?_))
        | ((with_reducible refine idO ?_); (with_reducible refine oM_gen fun Kv hK=>?_); simp [go_sem]; refine hK _ _ ?_; clear hK; clear Kv)))
        exact k _ (fun _ => hL)
      · repeat (any_goals (first
        | (with_reducible first|refine pureM_in ?_|((refine idGd ?_); first|refine zB ?_|((refine idGdD ?_); refine zF ?_))|((refine idPick ?_); first|refine yC ?_|refine yD ?_)|((refine idCond ?_); refine yM ?_))
        | ((with_reducible refine idO ?_); (with_reducible refine oM_gen fun Kv hK=>?_); simp [go_sem]; refine hK _ _ ?_; clear hK; clear Kv)))
        exact k _ (fun _ => hL)
    · by_cases h1 : i < l.length
      · repeat (any_goals (first
        | (with_reducible first|refine pureM_in ?_|((refine idGd ?_); ((refine idGdD ?_); first|refine zF ?_|refine zG ?_))|((refine idPick ?_); first|refine yD ?_|refine yE ?_)|((refine idCond ?_); refine yO ?_))
        | ((with_reducible refine idO ?_); (with_reducible refine oM_gen fun Kv hK=>?_); simp [go_sem]; refine hK _ _ ?_; clear hK; clear Kv)))
        exact k _ (fun h => by cases h)
      · repeat (any_goals (first
        | (with_reducible first|((refine idGd ?_); ((refine idGdD ?_); refine zG ?_))|((refine idPick ?_); refine yE ?_)|((refine idCond ?_); refine yM ?_))
        | ((with_reducible refine idO ?_); (with_reducible refine oM_gen fun Kv hK=>?_); simp [go_sem]; refine hK _ _ ?_; clear hK; clear Kv)))
        exact k _ (fun h => by cases h)
end
end Go.Proofs
namespace JnSpec
open CodeSpec DkSpec
structure Upp (A : Ab) : Prop where
  down : A.down = false
  armed : A.armed = 0
  lost : A.lost = 0
variable {all sure : List Bs} {f : Int} {A : Ab} {j : Jn}
theorem Upp.ends (u : Upp A) : endsA A = (false, A) := by unfold endsA; rw [if_pos (.inr u.armed)]
theorem Upp.comes (u : Upp A) : comesA A = A := by unfold comesA; rw [u.ends]; simp
theorem Upp.settle (u : Upp A) (s : Bs) : Upp (settleA A f s) := ⟨u.down, u.armed, u.lost⟩
theorem Upp.add (u : Upp A) (n : Nat) (s : Bs) : Upp (addA A f n s) := by
  unfold addA
  split
  · exact u
  · exact ⟨u.down, u.armed, u.lost⟩
theorem Upp.sync (u : Upp A) (hf : 0 ≤ f ∧ f ≤ 15) : syncA A f = (0, settleA A f (A.F f).1) := by
  unfold syncA
  rw [u.comes, mayA_up u.down (by omega), if_neg (by simp), if_neg (by have := u.lost; omega)]
theorem Upp.write (u : Upp A) (hf : 0 ≤ f ∧ f ≤ 15) {n : Nat} {s : Bs} (hb : n + s.length ≤ 16777216) : writeA A f n s = (0, addA A f n s) := by
  unfold writeA
  rw [u.ends]
  simp only [Bool.false_eq_true, if_false]
  unfold wrA
  rw [mayA_up u.down (by omega), if_neg (by simp), if_neg (by omega), if_neg (by omega)]
  simp
theorem Upp.openJ (u : Upp A) (hf : 0 ≤ f ∧ f ≤ 15) : ∃ B, JnSpec.openJ A f = (some ⟨(readJ (A.F f).1).1, (readJ (A.F f).1).2, false⟩, 0, B) ∧ Upp B ∧ (B.F f).1 = (A.F f).1.take (readJ (A.F f).1).2 ∧ ∀ g, g ≠ f → (B.F g) = A.F g := by
  have u2 : Upp (settleA A f (A.F f).1) := u.settle _
  have e1 : (settleA A f (A.F f).1).F f = ((A.F f).1, (A.F f).1) := setF_same _ _ _
  have e2 : ∀ g, g ≠ f → (settleA A f (A.F f).1).F g = A.F g := fun g hg => by show setF A.F f _ g = _; simp [setF, hg]
  have hle : (readJ (A.F f).1).2 ≤ (A.F f).1.length := by
    have h := readJ_spec (A.F f).1
    have h1 := congrArg List.length h.2.2.1
    rw [List.length_append, ← h.2.1] at h1
    omega
  unfold JnSpec.openJ
  rw [if_neg (by omega), u.sync hf, if_neg (by simp)]
  dsimp only
  rw [read_all u2.down hf, e1]
  generalize settleA A f (A.F f).1 = B at *
  generalize hx : (A.F f).1 = x at *
  unfold openB
  rw [if_neg (by simp)]
  dsimp only
  by_cases hlt : (readJ x).2 < x.length
  · rw [if_pos hlt]
    have ht : truncA B f (readJ x).2 = (0, settleA B f (x.take (readJ x).2)) := by
      unfold truncA
      rw [u2.comes, mayA_up u2.down (by omega), if_neg (by simp), if_neg (by rw [e1]; dsimp only; omega), e1]
      simp
    rw [ht, if_neg (by simp)]
    refine ⟨_, rfl, u2.settle _, ?_, fun g hg => ?_⟩
    · show (setF B.F f _ f).1 = _
      rw [setF_same]
    · show setF B.F f _ g = _
      rw [← e2 g hg]
      simp [setF, hg]
  · rw [if_neg hlt]
    refine ⟨B, rfl, u2, ?_, e2⟩
    rw [e1, List.take_of_length_le (by omega)]
theorem Upp.append (u : Upp A) (hf : 0 ≤ f ∧ f ≤ 15) {t : Bs} (hj : j.broken = false) (hx : (A.F f).1.length = j.bytes) (ht : t.length ≤ 20000) (hb : j.bytes + (form t).length ≤ 1048576) :
    ∃ B, appendJ A f j t = (0, B, ⟨j.recs ++ [t], j.bytes + (form t).length, false⟩) ∧ Upp B ∧ (B.F f).1 = (A.F f).1 ++ form t ∧ ∀ g, g ≠ f → (B.F g) = A.F g := by
  have hne : form t ≠ [] := List.length_pos_iff.1 (form_pos t)
  refine ⟨addA A f j.bytes (form t), ?_, u.add _ _, ?_, fun g hg => ?_⟩
  · unfold appendJ
    rw [if_neg (by rw [hj]; simp), if_neg (by omega), if_neg (by omega), u.write hf (by omega), if_neg (by simp)]
  · unfold addA
    rw [if_neg hne]
    show (setF A.F f _ f).1 = _
    rw [setF_same, ← hx, putB_end _ _ hne]
  · unfold addA
    rw [if_neg hne]
    show setF A.F f _ g = _
    simp [setF, hg]
theorem Upp.append_long (u : Upp A) {t : Bs} (hj : j.broken = false) (ht : 20000 < t.length) : (appendJ A f j t).1 = 3 := by
  unfold appendJ
  rw [if_neg (by rw [hj]; simp), if_pos ht]
theorem formL_bound {l : List Bs} (h : ∀ t ∈ l, t.length ≤ 20000) : (formL l).length ≤ l.length * 20064 := by
  induction l with
  | nil => simp [formL]
  | cons t l ih =>
    have h1 := ih (fun x hx => h x (by simp [hx]))
    have h2 := h t (by simp)
    have h3 := form_len (s := t) (by omega)
    rw [formL_cons, List.length_append, List.length_cons]
    omega
def zeroB (z : List Int) (s : Bs) : Bs := s.mapIdx (fun i c => if 0 < z.length ∧ z.getD (i / 64 % z.length) 0 % 2 = 1 then 0 else c)
theorem zeroB_len (z : List Int) (s : Bs) : (zeroB z s).length = s.length := by simp [zeroB]
theorem zeroB_get (z : List Int) (s : Bs) (i : Nat) (h : i < s.length) : (zeroB z s)[i]'(by rw [zeroB_len]; exact h) = if 0 < z.length ∧ z.getD (i / 64 % z.length) 0 % 2 = 1 then 0 else s[i] := by simp [zeroB]
theorem zeroB_dm (z : List Int) (s : Bs) (n : Nat) : Dm s ((zeroB z s).take n) := by
  refine Dm.take n ?_
  rw [Dm.iff]
  refine ⟨by rw [zeroB_len]; exact Nat.le_refl _, fun i => ?_⟩
  by_cases h : i < s.length
  · rw [List.getD_eq_getElem?_getD, List.getD_eq_getElem?_getD, List.getElem?_eq_getElem (by rw [zeroB_len]; exact h), List.getElem?_eq_getElem h, Option.getD_some, Option.getD_some, zeroB_get z s i h]
    split
    · exact .inr rfl
    · exact .inl rfl
  · right
    rw [List.getD_eq_getElem?_getD, List.getElem?_eq_none (by rw [zeroB_len]; omega)]
    rfl
end JnSpec
namespace Go.Proofs
open Go Go.Sh Go.RowKit CodeSpec JnSpec DkSpec
set_option linter.unusedSimpArgs false
set_option linter.unusedVariables false
set_option maxRecDepth 10000
attribute [local go_sem] oM_indexAddr
def endsL (l : List Bs) (i : Nat) : List Int := (List.range i).map (fun k => ((formL (l.take (k + 1))).length : Int))
theorem endsL_succ (l : List Bs) (i : Nat) : endsL l (i + 1) = endsL l i ++ [((formL (l.take (i + 1))).length : Int)] := by simp [endsL, List.range_succ]
theorem endsL_len (l : List Bs) (i : Nat) : (endsL l i).length = i := by simp [endsL]
structure TJ (w0 W : World) (b p : Nat) (l : List Bs) (i : Nat) (A : Ab) (h : Dk) (v ev : Value) : Prop where
  s : Sys W b A h
  jn : IsJn W b h p 0 ⟨l.take i, (formL (l.take i)).length, false⟩ v
  u : Upp A
  x : (A.F 0).1 = formL (l.take i)
  y : (A.F 1).1 = []
  e : W.ownsRow 0 3 1 ev i ((endsL l i).map Cd.intV)
  sep : ∀ k, ev.ownBlock = some k → ¬ Own b h k ∧ ¬ Rdb h k ∧ ¬ JO p v k
  bl : Below w0.heap.size w0 W
  new : ∀ k, Own b h k ∨ JO p v k ∨ ev.ownBlock = some k → w0.heap.size ≤ k
section
variable {w0 w w' w2 : World} {b p i : Nat} {A A' : Ab} {h h' h2 : Dk} {f : Int} {l : List Bs} {j j' : Jn} {v v' v2 ev : Value} {K : Value → World → Prop}
theorem TJ.append (t : TJ w0 w b p l i A h v ev) (hL : Longs l) (hi : i < l.length) (h6 : 6 ≤ w0.heap.size) (k : ∀ w' A' h' v', Sys w' b A' h' → IsJn w' b h' p 0 ⟨l.take (i + 1), (formL (l.take (i + 1))).length, false⟩ v' → Upp A' → (A'.F 0).1 = formL (l.take (i + 1)) → (A'.F 1).1 = [] →
    w'.ownsRow 0 3 1 ev i ((endsL l i).map Cd.intV) → (∀ k, ev.ownBlock = some k → ¬ Own b h' k ∧ ¬ Rdb h' k ∧ ¬ JO p v' k) → Below w0.heap.size w0 w' → (∀ k, Own b h' k ∨ JO p v' k ∨ ev.ownBlock = some k → w0.heap.size ≤ k) → K (.int .i64 0) w') : callM Tryd.prog 50 #[jnP p, .string ⟨l[i].toArray⟩] K w := by
  have ht := hL.2 l[i] (List.getElem_mem hi)
  have hb : (formL (l.take (i + 1))).length ≤ 1048576 := by
    have h1 := formL_bound (l := l.take (i + 1)) (fun x hx => hL.2 x (List.mem_of_mem_take hx))
    have h2 := hL.1
    have h3 : (l.take (i + 1)).length ≤ 8 := by simp; omega
    have h4 : (l.take (i + 1)).length * 20064 ≤ 8 * 20064 := Nat.mul_le_mul_right _ h3
    omega
  have hsn : l.take (i + 1) = l.take i ++ [l[i]] := List.take_succ_eq_append_getElem hi
  have hfs : formL (l.take (i + 1)) = formL (l.take i) ++ form l[i] := by rw [hsn, formL_append]; simp [formL]
  have hfl := congrArg List.length hfs
  rw [List.length_append] at hfl
  obtain ⟨B, ha, hu, hx, hy⟩ := t.u.append (f := 0) (by omega) (j := ⟨l.take i, (formL (l.take i)).length, false⟩) rfl (by rw [t.x]) ht (by dsimp only; omega)
  refine append_ok t.s t.jn (by omega) l[i] (by omega) (fun w' h' v' s' jn' t' => ?_)
  rw [ha] at s' jn' ⊢
  dsimp only at s' jn' ⊢
  rw [← hsn, ← hfl] at jn'
  have hz := t'.fr.size
  have hel : ∀ k, ev.ownBlock = some k → k < w.heap.size := fun k hk => (owns_own t.e hk).1
  refine k w' B h' v' s' jn' hu (by rw [hx, t.x, hfs]) (by rw [hy 1 (by decide), t.y]) ?_ ?_ ?_ ?_
  · refine owns_keep t.e (fun k hk => t'.fr.block k (hel k hk) (fun ho => ?_))
    have := t.sep k hk
    exact ho.elim this.1 this.2.2
  · intro k hk
    have h1 := t.sep k hk
    have h2 := hel k hk
    exact ⟨fun ho => (t'.own k ho).elim h1.1 (fun h => by omega), fun ho => (t'.rd k ho).elim h1.2.1 (fun h => by omega), fun ho => (t'.jo k ho).elim h1.2.2 (fun h => by omega)⟩
  · exact t.bl.trans (below_of_jst t' (fun k hk => t.new k (.inl hk)) (fun k hk => t.new k (.inr (.inl hk))) t.bl.size)
  · have hz0 := t.bl.size
    rintro k (hk | hk | hk)
    · exact (t'.own k hk).elim (fun h => t.new k (.inl h)) (fun h => by omega)
    · exact (t'.jo k hk).elim (fun h => t.new k (.inr (.inl h))) (fun h => by omega)
    · exact t.new k (.inr (.inr hk))
end
end Go.Proofs
namespace Go.Proofs
open Go Go.Sh Go.RowKit CodeSpec JnSpec DkSpec
set_option linter.unusedSimpArgs false
set_option linter.unusedVariables false
set_option maxRecDepth 10000
attribute [local go_sem] oM_indexAddr
section
variable {w0 w w' w2 : World} {b p i : Nat} {A A' : Ab} {h h' h2 : Dk} {f : Int} {l : List Bs} {j j' : Jn} {v v' v2 ev : Value} {K : Value → World → Prop}
theorem ends_at {n : Int} {xs : List Int} (s : Sys w b A h) (jn : IsJn w b h p f j v) (e : w.ownsRow 0 3 1 ev xs.length (xs.map Cd.intV)) (hx : xs.length < 2 ^ 40)
    (sep : ∀ k, ev.ownBlock = some k → ¬ Own b h k ∧ ¬ Rdb h k ∧ ¬ JO p v k) {w0 : World} (bl : Below w0.heap.size w0 w) (new : ∀ k, Own b h k ∨ JO p v k ∨ ev.ownBlock = some k → w0.heap.size ≤ k) (h6 : 6 ≤ w0.heap.size)
    (k : ∀ ev' w', Sys w' b A h → IsJn w' b h p f j v → w'.ownsRow 0 3 1 ev' (xs.length + 1) ((xs ++ [n]).map Cd.intV) → (∀ k, ev'.ownBlock = some k → ¬ Own b h k ∧ ¬ Rdb h k ∧ ¬ JO p v k) → Below w0.heap.size w0 w' → (∀ k, Own b h k ∨ JO p v k ∨ ev'.ownBlock = some k → w0.heap.size ≤ k) → K ev' w') :
    oM Tryd.prog (.buildSlice 22 1 #[(0, (.tmp 0))]) 22 [.int .i64 n] (fun v57 w => oM Tryd.prog (.call (Go.Call.mk (Go.Callee.builtin Go.Builtin.append) #[(.tmp 0), (.tmp 1)] #[22, 22])) 22 [ev, v57] (fun v58 w => K v58 w) w) w := by
  repeat (any_goals ((with_reducible refine idO ?_); (with_reducible refine oM_gen fun Kv hK=>?_); simp [go_sem]; refine hK _ _ ?_; clear hK; clear Kv))
  have hb5 : Below w.heap.size w (w.alloc (.cells #[.int .i64 n] 3)) := (Below.refl _ _).alloc (Nat.le_refl _) _
  have hn5 := heap_alloc_new w (.cells #[.int .i64 n] 3)
  have s5 := s.below hb5
  have jn5 := jn.below hb5
  have e5 := e.kept (Cd.grown_of_below hb5 none) (by
    rcases e.2 with ⟨rfl, _⟩ | ⟨g, cap, cur, rfl, _⟩
    · left; rfl
    · right; simp [Value.ownBlock])
  have hz := bl.size
  have bl5 := bl.trans (hb5.mono hz)
  generalize w.alloc (.cells #[.int .i64 n] 3) = w5 at *
  have hl := s5.l.size
  have hz5 := hb5.size
  refine append_at 22 22 3 Tryd.t3 (.int .i64 0) 1 8 Tryd.underlying22 (by kernel_rfl) (by kernel_rfl) (by kernel_rfl) (by kernel_rfl) rfl (by omega) e5 [Cd.intV n] rfl (fun e => by cases e) (fun a ha i u hu => by
    cases ha
    rw [Cd.addr_add, Nat.zero_add, cell_of_block hn5]
    match i, hu with
    | 0, hu => exact hu
    | i + 1, hu => simp at hu) (by intro u hu; simp only [List.mem_singleton] at hu; subst hu; rfl) (by unfold maxLen; omega) (by omega) (fun v6 w6 ho6 hg6 hv6 => ?_)
  have hF : Fr (fun i => ev.ownBlock = some i) w5 w6 := (Fr.refl _ _).by hg6 (fun i e => .inl e)
  refine k v6 w6 (s5.fresh hF (fun i hi => ⟨fun ho => ho.elim (sep i hi).1 (sep i hi).2.1, by have := new i (.inr (.inr hi)); omega⟩)) (jn5.keep hF (fun i hi => (sep i hi).2.2) (fun i hi => hi.elim .inl (fun h => .inr (.inl h)))) (by simpa using ho6) ?_ ?_ ?_
  · intro i hi
    rcases hv6 i hi with hv | hv
    · exact sep i hv
    · exact ⟨fun ho => by have := s5.d.lt (.inl ho); omega, fun ho => by have := s5.d.lt (.inr ho); omega, fun ho => by have := jn5.lt ho; omega⟩
  · exact bl5.trans (Cd.below_of_grown hg6 (by omega) (fun i hi => new i (.inr (.inr hi))))
  · rintro i (hi | hi | hi)
    · exact new i (.inl hi)
    · exact new i (.inr (.inl hi))
    · rcases hv6 i hi with hv | hv
      · exact new i (.inr (.inr hv))
      · omega
end
end Go.Proofs
namespace Go.Proofs
open Go Go.Sh Go.RowKit CodeSpec JnSpec DkSpec
set_option linter.unusedSimpArgs false
set_option linter.unusedVariables false
set_option maxRecDepth 10000
section
variable {w w' : World} {v : Value} {l : List UInt8}
theorem BufM.at_ (h : BufM w 5 v l) {i : Nat} (hi : i < l.length) : ∃ g c, v = .slice (some ⟨g, 0, none⟩) l.length c ∧ w.cell? ⟨g, i, none⟩ = some (.int .u8 (l[i].toNat : Int)) ∧ w.frozen? ⟨g, i, none⟩ = false ∧
    (∀ W, (Instr.indexAt 61 (.slice (some ⟨g, 0, none⟩) l.length c) (.int .i64 i)).run Tryd.prog W = .ok (.pointer (some ⟨g, i, none⟩)) W) ∧ BufM (w.setCell ⟨g, i, none⟩ (.int .u8 0)) 5 v (l.set i 0) := by
  obtain ⟨g, cap, cur, fz, rfl, hg, hf, hc, hlc, hcell⟩ := h
  refine ⟨g, cap, rfl, ?_, ?_, fun W => ?_, ⟨g, cap, cur.setIfInBounds i (.int .u8 0), fz, by simp, block_set hg _, by simpa using hf, by simpa using hc, by simpa using hlc, fun j hj => ?_⟩⟩
  · rw [cell_of_block hg]; exact hcell i hi
  · have := hf i (by omega)
    simp [World.frozen?, hg]
    omega
  · rw [run_indexAt_slice (h := by kernel_rfl), if_pos (by omega)]
    have hs : (sizeOf (Tryd.prog.elem 61)).run Tryd.prog W = .ok 1 W := by kernel_rfl
    rw [hs]
    simp only [Result.andThen, Int.toNat_natCast, add_none, Nat.zero_add, Nat.mul_one]
  · have hj' : j < l.length := by simpa using hj
    rw [List.getElem_set]
    by_cases e : i = j
    · subst e
      have : i < cur.size := by omega
      simp [this]
    · rw [if_neg e, Array.getElem?_setIfInBounds_ne e]
      exact hcell j hj'
theorem BufM.take (h : BufM w 5 v l) (n : Nat) (hn : n ≤ l.length) : ∃ g c, v = .slice (some ⟨g, 0, none⟩) l.length c ∧ l.length ≤ c ∧ BufM w 5 (.slice (some ⟨g, 0, none⟩) n c) (l.take n) := by
  obtain ⟨g, cap, cur, fz, rfl, hg, hf, hc, hlc, hcell⟩ := h
  refine ⟨g, cap, rfl, hlc, ⟨g, cap, cur, fz, by simp; omega, hg, hf, hc, by simp; omega, fun j hj => ?_⟩⟩
  have hj' : j < l.length := by simp at hj; omega
  rw [List.getElem_take]
  exact hcell j hj'
theorem zeroB_step (z : List Int) (s : Bs) (i : Nat) (hi : i < s.length) : (((zeroB z s).take i ++ s.drop i).set i 0 = (zeroB z s).take (i + 1) ++ s.drop (i + 1) ∨ ¬ (0 < z.length ∧ z.getD (i / 64 % z.length) 0 % 2 = 1)) ∧ ((0 < z.length ∧ z.getD (i / 64 % z.length) 0 % 2 = 1) ∨ (zeroB z s).take i ++ s.drop i = (zeroB z s).take (i + 1) ++ s.drop (i + 1)) := by
  have hz : i < (zeroB z s).length := by rw [zeroB_len]; exact hi
  have h1 : (zeroB z s).take (i + 1) = (zeroB z s).take i ++ [(zeroB z s)[i]] := List.take_succ_eq_append_getElem hz
  have h2 : s.drop i = s[i] :: s.drop (i + 1) := List.drop_eq_getElem_cons hi
  have h3 := zeroB_get z s i hi
  have hl : ((zeroB z s).take i).length = i := by simp; omega
  by_cases hc : 0 < z.length ∧ z.getD (i / 64 % z.length) 0 % 2 = 1
  · rw [if_pos hc] at h3
    refine ⟨.inl ?_, .inl hc⟩
    rw [h1, h3, h2, List.set_append_right i 0 (by omega), hl, Nat.sub_self, List.set_cons_zero, List.append_assoc, List.singleton_append]
  · rw [if_neg hc] at h3
    refine ⟨.inr hc, .inr ?_⟩
    rw [h1, h3, h2]
    simp
end
end Go.Proofs
set_option linter.unusedVariables false
set_option maxRecDepth 100000
namespace Go.Proofs
open Go Go.Sh
def tornTail (a0 hd dk ev sv bv n : Value) (K : Value → World → Prop) (w : World) : Prop :=
 oM Tryd.prog (Go.Op.slice 61 (.tmp 0) none (some (.tmp 1)) none) 61 [bv, n] (fun v98_55 w =>
 oM Tryd.prog (Go.Op.convert 61 9 (.tmp 0)) 9 [v98_55] (fun v99_56 w =>
 loopM [(.int .i64 0)] w (fun J_57 m_58 l_59 u_l_59 w0_l_59 => (fun w => (
 heldM w (fun C_60 w => (True ∧ (pureH (l_59.getD 0 undef) C_60 (fun v100_61 =>
 pureH ev C_60 (fun v101_62 =>
 oH Tryd.prog (Go.Op.call (Go.Call.mk (Go.Callee.builtin Go.Builtin.len) #[(.tmp 0)] #[22])) 3 [v101_62] C_60 (fun v102_63 =>
 oH Tryd.prog (Go.Op.binOp Go.BinOp.lss 3 (.tmp 0) (.tmp 1) 3) 4 [v100_61, v102_63] C_60 (fun v103_64 =>
 pureH v103_64 C_60 (fun v104_65 =>
 gdH (gd v104_65 true) (pureH ev) C_60 (fun v105_66 =>
 gdH (gd v104_65 true) (pureH (l_59.getD 0 undef)) C_60 (fun v106_67 =>
 gdH (gd v104_65 true) (oH Tryd.prog (Go.Op.indexAddr 22 (.tmp 0) (.tmp 1)) 0 [v105_66, v106_67]) C_60 (fun v107_68 =>
 gdH (gd v104_65 true) (oH Tryd.prog (Go.Op.load 3 (.tmp 0)) 3 [v107_68]) C_60 (fun v108_69 =>
 gdH (gd v104_65 true) (pureH v99_56) C_60 (fun v109_70 =>
 gdH (gd v104_65 true) (oH Tryd.prog (Go.Op.call (Go.Call.mk (Go.Callee.builtin Go.Builtin.len) #[(.tmp 0)] #[9])) 3 [v109_70]) C_60 (fun v110_71 =>
 gdH (gd v104_65 true) (oH Tryd.prog (Go.Op.binOp Go.BinOp.leq 3 (.tmp 0) (.tmp 1) 3) 4 [v108_69, v110_71]) C_60 (fun v111_72 =>
 oH Tryd.prog (Go.Op.pick (.tmp 0) (.tmp 1) (.tmp 2)) 4 [v104_65, v111_72, (.bool false)] C_60 (fun v112_73 =>
 pureH v112_73 C_60 (fun v113_74 =>
 gdH (gd v113_74 true) (pureH v99_56) C_60 (fun v114_75 =>
 gdH (gd v113_74 true) (pureH ev) C_60 (fun v115_76 =>
 gdH (gd v113_74 true) (pureH (l_59.getD 0 undef)) C_60 (fun v116_77 =>
 gdH (gd v113_74 true) (oH Tryd.prog (Go.Op.indexAddr 22 (.tmp 0) (.tmp 1)) 0 [v115_76, v116_77]) C_60 (fun v117_78 =>
 gdH (gd v113_74 true) (oH Tryd.prog (Go.Op.load 3 (.tmp 0)) 3 [v117_78]) C_60 (fun v118_79 =>
 gdH (gd v113_74 true) (oH Tryd.prog (Go.Op.slice 9 (.tmp 0) none (some (.tmp 1)) none) 9 [v114_75, v118_79]) C_60 (fun v119_80 =>
 gdH (gd v113_74 true) (pureH sv) C_60 (fun v120_81 =>
 gdH (gd v113_74 true) (pureH ev) C_60 (fun v121_82 =>
 gdH (gd v113_74 true) (pureH (l_59.getD 0 undef)) C_60 (fun v122_83 =>
 gdH (gd v113_74 true) (oH Tryd.prog (Go.Op.indexAddr 22 (.tmp 0) (.tmp 1)) 0 [v121_82, v122_83]) C_60 (fun v123_84 =>
 gdH (gd v113_74 true) (oH Tryd.prog (Go.Op.load 3 (.tmp 0)) 3 [v123_84]) C_60 (fun v124_85 =>
 gdH (gd v113_74 true) (oH Tryd.prog (Go.Op.slice 9 (.tmp 0) none (some (.tmp 1)) none) 9 [v120_81, v124_85]) C_60 (fun v125_86 =>
 gdH (gd v113_74 true) (oH Tryd.prog (Go.Op.binOp Go.BinOp.eql 9 (.tmp 0) (.tmp 1) 9) 4 [v119_80, v125_86]) C_60 (fun v126_87 =>
 oH Tryd.prog (Go.Op.pick (.tmp 0) (.tmp 1) (.tmp 2)) 4 [v113_74, v126_87, (.bool false)] C_60 (fun v127_88 =>
 ∃ S_89 : World → World → Prop, ∀ w, C_60 w → (
 condM v127_88
 (oM Tryd.prog (Go.Op.binOp Go.BinOp.add 3 (.tmp 0) (.tmp 1) 3) 3 [(l_59.getD 0 undef), (.int .i64 1)] (fun v129_90 w =>
 J_57 [v129_90] w ∧ m_58 [v129_90] w < m_58 l_59 w0_l_59) w)
 (callM Tryd.prog 53 #[dk, (.int .i64 1), (.int .i64 0), v99_56] (fun v132_91 w =>
 callM Tryd.prog 49 #[dk, (.int .i64 1)] (fun v135_92 w =>
 oM Tryd.prog (Go.Op.extract (.tmp 0) 0) 53 [v135_92] (fun v136_93 w =>
 oM Tryd.prog (Go.Op.extract (.tmp 0) 1) 54 [v135_92] (fun v137_94 w =>
 heldM w (fun C_95 w => (True ∧ (pureH v136_93 C_95 (fun v138_96 =>
 oH Tryd.prog (Go.Op.binOp Go.BinOp.eql 53 (.tmp 0) (.const (.pointer none)) 53) 4 [v138_96] C_95 (fun v139_97 =>
 pureH v139_97 C_95 (fun v140_98 =>
 gdH (gd v140_98 false) (pureH v137_94) C_95 (fun v141_99 =>
 gdH (gd v140_98 false) (oH Tryd.prog (Go.Op.binOp Go.BinOp.neq 54 (.tmp 0) (.const (.int .i64 0)) 54) 4 [v141_99]) C_95 (fun v142_100 =>
 oH Tryd.prog (Go.Op.pick (.tmp 0) (.tmp 1) (.tmp 2)) 4 [v140_98, (.bool true), v142_100] C_95 (fun v143_101 =>
 pureH v143_101 C_95 (fun v144_102 =>
 gdH (gd v144_102 false) (pureH v136_93) C_95 (fun v145_103 =>
 gdH (gd v144_102 false) (pureH a0) C_95 (fun v147_104 =>
 gdH (gd v144_102 false) (pureH (l_59.getD 0 undef)) C_95 (fun v148_105 =>
 gdH (gd v144_102 false) (oH Tryd.prog (Go.Op.slice 23 (.tmp 0) none (some (.tmp 1)) none) 23 [v147_104, v148_105]) C_95 (fun v149_106 =>
 ∃ S_107 : World → World → Prop, ∃ R_108 : Value → World → Prop, (∀ v w w_1, S_107 w w_1 → R_108 v w → R_108 v w_1) ∧
 (∀ w, C_95 w → (gdM (gd v144_102 false) (callM Tryd.prog 54 #[v145_103]) (fun v w_1 => C_95 w_1 ∧ S_107 w w_1 ∧ R_108 v w_1) w)) ∧
 (∀ w, C_95 w → ∀ v146_109, R_108 v146_109 w → (
 gdM (gd v144_102 false) (callM Tryd.prog 40 #[v146_109, v149_106]) (fun v150_110 w =>
 gdM (gd v144_102 false) (oM Tryd.prog (Go.Op.unOp Go.UnOp.not 4 (.tmp 0)) 4 [v150_110]) (fun v151_111 w =>
 oM Tryd.prog (Go.Op.pick (.tmp 0) (.tmp 1) (.tmp 2)) 4 [v144_102, (.bool true), v151_111] (fun v152_112 w =>
 condM v152_112
 (K (.bool false) w)
 (gdM (gd hd true) (pureM v136_93) (fun v155_113 w =>
 gdM (gd hd true) (callM Tryd.prog 50 #[v155_113, (.string ⟨#[110, 101, 120, 116]⟩)]) (fun v156_114 w =>
 gdM (gd hd true) (oM Tryd.prog (Go.Op.binOp Go.BinOp.eql 54 (.tmp 0) (.const (.int .i64 0)) 54) 4 [v156_114]) (fun v157_115 w =>
 oM Tryd.prog (Go.Op.pick (.tmp 0) (.tmp 1) (.tmp 2)) 4 [hd, v157_115, (.bool false)] (fun v158_116 w =>
 gdM (gd v158_116 true) (pureM v136_93) (fun v160_117 w =>
 gdM (gd v158_116 true) (callM Tryd.prog 55 #[v160_117]) (fun v161_118 w =>
 gdM (gd v158_116 true) (pureM (l_59.getD 0 undef)) (fun v162_119 w =>
 gdM (gd v158_116 true) (oM Tryd.prog (Go.Op.binOp Go.BinOp.add 3 (.tmp 0) (.tmp 1) 3) 3 [v162_119, (.int .i64 1)]) (fun v163_120 w =>
 gdM (gd v158_116 true) (oM Tryd.prog (Go.Op.binOp Go.BinOp.eql 3 (.tmp 0) (.tmp 1) 3) 4 [v161_118, v163_120]) (fun v164_121 w =>
 oM Tryd.prog (Go.Op.pick (.tmp 0) (.tmp 1) (.tmp 2)) 4 [v158_116, v164_121, (.bool false)] (fun v165_122 w =>
 gdM (gd v165_122 true) (pureM v136_93) (fun v167_123 w =>
 gdM (gd v165_122 true) (pureM (l_59.getD 0 undef)) (fun v168_124 w =>
 gdM (gd v165_122 true) (callM Tryd.prog 56 #[v167_123, v168_124]) (fun v169_125 w =>
 gdM (gd v165_122 true) (oM Tryd.prog (Go.Op.binOp Go.BinOp.eql 9 (.tmp 0) (.const (.string ⟨#[110, 101, 120, 116]⟩)) 9) 4 [v169_125]) (fun v170_126 w =>
 oM Tryd.prog (Go.Op.pick (.tmp 0) (.tmp 1) (.tmp 2)) 4 [v165_122, v170_126, (.bool false)] (fun v171_127 w =>
 gdM (gd v171_127 true) (pureM v136_93) (fun v173_128 w =>
 gdM (gd v171_127 true) (pureM (l_59.getD 0 undef)) (fun v174_129 w =>
 gdM (gd v171_127 true) (oM Tryd.prog (Go.Op.binOp Go.BinOp.add 3 (.tmp 0) (.tmp 1) 3) 3 [v174_129, (.int .i64 1)]) (fun v175_130 w =>
 gdM (gd v171_127 true) (callM Tryd.prog 56 #[v173_128, v175_130]) (fun v176_131 w =>
 gdM (gd v171_127 true) (oM Tryd.prog (Go.Op.binOp Go.BinOp.eql 9 (.tmp 0) (.const (.string ⟨#[]⟩)) 9) 4 [v176_131]) (fun v177_132 w =>
 oM Tryd.prog (Go.Op.pick (.tmp 0) (.tmp 1) (.tmp 2)) 4 [v171_127, v177_132, (.bool false)] (fun v178_133 w =>
 gdM (gd v178_133 true) (pureM v136_93) (fun v180_134 w =>
 gdM (gd v178_133 true) (callM Tryd.prog 56 #[v180_134, (.int .i64 (-1))]) (fun v181_135 w =>
 gdM (gd v178_133 true) (oM Tryd.prog (Go.Op.binOp Go.BinOp.eql 9 (.tmp 0) (.const (.string ⟨#[]⟩)) 9) 4 [v181_135]) (fun v182_136 w =>
 oM Tryd.prog (Go.Op.pick (.tmp 0) (.tmp 1) (.tmp 2)) 4 [v178_133, v182_136, (.bool false)] (fun v183_137 w =>
 gdM (gd v183_137 true) (pureM v136_93) (fun v185_138 w =>
 gdM (gd v183_137 true) (oM Tryd.prog (Go.Op.makeSlice 61 (.tmp 0) (.tmp 1)) 61 [(.int .i64 20001), (.int .i64 20001)]) (fun v186_139 w =>
 gdM (gd v183_137 true) (oM Tryd.prog (Go.Op.convert 61 9 (.tmp 0)) 9 [v186_139]) (fun v187_140 w =>
 gdM (gd v183_137 true) (callM Tryd.prog 50 #[v185_138, v187_140]) (fun v188_141 w =>
 gdM (gd v183_137 true) (oM Tryd.prog (Go.Op.binOp Go.BinOp.eql 54 (.tmp 0) (.const (.int .i64 3)) 54) 4 [v188_141]) (fun v189_142 w =>
 oM Tryd.prog (Go.Op.pick (.tmp 0) (.tmp 1) (.tmp 2)) 4 [v183_137, v189_142, (.bool false)] (fun v190_143 w =>
 K v190_143 w) w) w) w) w) w) w) w) w) w) w) w) w) w) w) w) w) w) w) w) w) w) w) w) w) w) w) w) w) w) w) w)) w) w) w))))))))))))))))) w) w) w) w))))))))))))))))))))))))))))))))))) w0_l_59)) w) w
def tornEnd (a0 hd dk tv m : Value) (K : Value → World → Prop) (w : World) : Prop :=
 callM Tryd.prog 53 #[dk, (.int .i64 1), (.int .i64 0), tv] (fun v132_91 w =>
 callM Tryd.prog 49 #[dk, (.int .i64 1)] (fun v135_92 w =>
 oM Tryd.prog (Go.Op.extract (.tmp 0) 0) 53 [v135_92] (fun v136_93 w =>
 oM Tryd.prog (Go.Op.extract (.tmp 0) 1) 54 [v135_92] (fun v137_94 w =>
 heldM w (fun C_95 w => (True ∧ (pureH v136_93 C_95 (fun v138_96 =>
 oH Tryd.prog (Go.Op.binOp Go.BinOp.eql 53 (.tmp 0) (.const (.pointer none)) 53) 4 [v138_96] C_95 (fun v139_97 =>
 pureH v139_97 C_95 (fun v140_98 =>
 gdH (gd v140_98 false) (pureH v137_94) C_95 (fun v141_99 =>
 gdH (gd v140_98 false) (oH Tryd.prog (Go.Op.binOp Go.BinOp.neq 54 (.tmp 0) (.const (.int .i64 0)) 54) 4 [v141_99]) C_95 (fun v142_100 =>
 oH Tryd.prog (Go.Op.pick (.tmp 0) (.tmp 1) (.tmp 2)) 4 [v140_98, (.bool true), v142_100] C_95 (fun v143_101 =>
 pureH v143_101 C_95 (fun v144_102 =>
 gdH (gd v144_102 false) (pureH v136_93) C_95 (fun v145_103 =>
 gdH (gd v144_102 false) (pureH a0) C_95 (fun v147_104 =>
 gdH (gd v144_102 false) (pureH m) C_95 (fun v148_105 =>
 gdH (gd v144_102 false) (oH Tryd.prog (Go.Op.slice 23 (.tmp 0) none (some (.tmp 1)) none) 23 [v147_104, v148_105]) C_95 (fun v149_106 =>
 ∃ S_107 : World → World → Prop, ∃ R_108 : Value → World → Prop, (∀ v w w_1, S_107 w w_1 → R_108 v w → R_108 v w_1) ∧
 (∀ w, C_95 w → (gdM (gd v144_102 false) (callM Tryd.prog 54 #[v145_103]) (fun v w_1 => C_95 w_1 ∧ S_107 w w_1 ∧ R_108 v w_1) w)) ∧
 (∀ w, C_95 w → ∀ v146_109, R_108 v146_109 w → (
 gdM (gd v144_102 false) (callM Tryd.prog 40 #[v146_109, v149_106]) (fun v150_110 w =>
 gdM (gd v144_102 false) (oM Tryd.prog (Go.Op.unOp Go.UnOp.not 4 (.tmp 0)) 4 [v150_110]) (fun v151_111 w =>
 oM Tryd.prog (Go.Op.pick (.tmp 0) (.tmp 1) (.tmp 2)) 4 [v144_102, (.bool true), v151_111] (fun v152_112 w =>
 condM v152_112
 (K (.bool false) w)
 (gdM (gd hd true) (pureM v136_93) (fun v155_113 w =>
 gdM (gd hd true) (callM Tryd.prog 50 #[v155_113, (.string ⟨#[110, 101, 120, 116]⟩)]) (fun v156_114 w =>
 gdM (gd hd true) (oM Tryd.prog (Go.Op.binOp Go.BinOp.eql 54 (.tmp 0) (.const (.int .i64 0)) 54) 4 [v156_114]) (fun v157_115 w =>
 oM Tryd.prog (Go.Op.pick (.tmp 0) (.tmp 1) (.tmp 2)) 4 [hd, v157_115, (.bool false)] (fun v158_116 w =>
 gdM (gd v158_116 true) (pureM v136_93) (fun v160_117 w =>
 gdM (gd v158_116 true) (callM Tryd.prog 55 #[v160_117]) (fun v161_118 w =>
 gdM (gd v158_116 true) (pureM m) (fun v162_119 w =>
 gdM (gd v158_116 true) (oM Tryd.prog (Go.Op.binOp Go.BinOp.add 3 (.tmp 0) (.tmp 1) 3) 3 [v162_119, (.int .i64 1)]) (fun v163_120 w =>
 gdM (gd v158_116 true) (oM Tryd.prog (Go.Op.binOp Go.BinOp.eql 3 (.tmp 0) (.tmp 1) 3) 4 [v161_118, v163_120]) (fun v164_121 w =>
 oM Tryd.prog (Go.Op.pick (.tmp 0) (.tmp 1) (.tmp 2)) 4 [v158_116, v164_121, (.bool false)] (fun v165_122 w =>
 gdM (gd v165_122 true) (pureM v136_93) (fun v167_123 w =>
 gdM (gd v165_122 true) (pureM m) (fun v168_124 w =>
 gdM (gd v165_122 true) (callM Tryd.prog 56 #[v167_123, v168_124]) (fun v169_125 w =>
 gdM (gd v165_122 true) (oM Tryd.prog (Go.Op.binOp Go.BinOp.eql 9 (.tmp 0) (.const (.string ⟨#[110, 101, 120, 116]⟩)) 9) 4 [v169_125]) (fun v170_126 w =>
 oM Tryd.prog (Go.Op.pick (.tmp 0) (.tmp 1) (.tmp 2)) 4 [v165_122, v170_126, (.bool false)] (fun v171_127 w =>
 gdM (gd v171_127 true) (pureM v136_93) (fun v173_128 w =>
 gdM (gd v171_127 true) (pureM m) (fun v174_129 w =>
 gdM (gd v171_127 true) (oM Tryd.prog (Go.Op.binOp Go.BinOp.add 3 (.tmp 0) (.tmp 1) 3) 3 [v174_129, (.int .i64 1)]) (fun v175_130 w =>
 gdM (gd v171_127 true) (callM Tryd.prog 56 #[v173_128, v175_130]) (fun v176_131 w =>
 gdM (gd v171_127 true) (oM Tryd.prog (Go.Op.binOp Go.BinOp.eql 9 (.tmp 0) (.const (.string ⟨#[]⟩)) 9) 4 [v176_131]) (fun v177_132 w =>
 oM Tryd.prog (Go.Op.pick (.tmp 0) (.tmp 1) (.tmp 2)) 4 [v171_127, v177_132, (.bool false)] (fun v178_133 w =>
 gdM (gd v178_133 true) (pureM v136_93) (fun v180_134 w =>
 gdM (gd v178_133 true) (callM Tryd.prog 56 #[v180_134, (.int .i64 (-1))]) (fun v181_135 w =>
 gdM (gd v178_133 true) (oM Tryd.prog (Go.Op.binOp Go.BinOp.eql 9 (.tmp 0) (.const (.string ⟨#[]⟩)) 9) 4 [v181_135]) (fun v182_136 w =>
 oM Tryd.prog (Go.Op.pick (.tmp 0) (.tmp 1) (.tmp 2)) 4 [v178_133, v182_136, (.bool false)] (fun v183_137 w =>
 gdM (gd v183_137 true) (pureM v136_93) (fun v185_138 w =>
 gdM (gd v183_137 true) (oM Tryd.prog (Go.Op.makeSlice 61 (.tmp 0) (.tmp 1)) 61 [(.int .i64 20001), (.int .i64 20001)]) (fun v186_139 w =>
 gdM (gd v183_137 true) (oM Tryd.prog (Go.Op.convert 61 9 (.tmp 0)) 9 [v186_139]) (fun v187_140 w =>
 gdM (gd v183_137 true) (callM Tryd.prog 50 #[v185_138, v187_140]) (fun v188_141 w =>
 gdM (gd v183_137 true) (oM Tryd.prog (Go.Op.binOp Go.BinOp.eql 54 (.tmp 0) (.const (.int .i64 3)) 54) 4 [v188_141]) (fun v189_142 w =>
 oM Tryd.prog (Go.Op.pick (.tmp 0) (.tmp 1) (.tmp 2)) 4 [v183_137, v189_142, (.bool false)] (fun v190_143 w =>
 K v190_143 w) w) w) w) w) w) w) w) w) w) w) w) w) w) w) w) w) w) w) w) w) w) w) w) w) w) w) w) w) w) w) w)) w) w) w))))))))))))))))) w) w) w) w
end Go.Proofs
namespace Go.Proofs
open Go Go.Sh Go.RowKit CodeSpec JnSpec DkSpec
set_option linter.unusedSimpArgs false
set_option linter.unusedVariables false
set_option maxRecDepth 10000
attribute [local go_sem] oM_indexAddr
theorem Same.cell {w W : World} (h : Same w W) (a : Addr) : W.cell? a = w.cell? a := cell_heap h.1 a
section
variable {w w' w2 : World} {b : Nat} {A : Ab} {h : Dk} {K : Value → World → Prop}
theorem endsL_get (l : List Bs) (m : Nat) (hm : m < (endsL l l.length).length) : (endsL l l.length)[m] = ((formL (l.take (m + 1))).length : Int) := by simp [endsL]
theorem slTo {w : World} {K : Value → World → Prop} {T : TypeId} {a : Option Addr} {n c : Nat} (i : Nat) (hi : i ≤ c) : oM Tryd.prog (.slice 23 (.tmp 0) none (some (.tmp 1)) none) T [.slice a n c, .int .i64 i] K w = K (.slice a i c) w := by
  rw [oM_sliceTo, run_sliceAt_slice w 23 _ _ _ _ (by kernel_rfl), run_slice_h w 23 _ n c (by kernel_rfl) .i64 i (by omega) (by omega)]
  have hs : (sizeOf (Tryd.prog.elem 23)).run Tryd.prog w = .ok 1 w := by kernel_rfl
  rw [hs]
  have e : a.map (fun x => x.add (0 * 1)) = a := by
    cases a with
    | none => rfl
    | some a => simp [Addr.add]
  simp only [Result.andThen_ok, sliced, Int.toNat_natCast, Nat.sub_zero, e, ite_self]
  rfl
theorem end_ok {l : List Bs} {torn : Bs} {a0 : Value} {m : Nat} (hL : Longs l) (ht : (readJ torn).1 = l.take m) (hm : m ≤ l.length) (htl : torn.length ≤ 160512) (s : Sys w b A h) (u : Upp A) (y1 : (A.F 1).1 = []) {w0 : World} (hr0 : Cd.RowOf Cd.strV w0 a0 l) (bl : Below w0.heap.size w0 w) (hown : ∀ i, Own b h i → w0.heap.size ≤ i) (hcap : ∀ a n c, a0 = .slice a n c → n ≤ c) (k : ∀ w', Below w0.heap.size w0 w' → K (.bool true) w') :
    tornEnd a0 (.bool true) (dkP b) (.string ⟨torn.toArray⟩) (.int .i64 (m : Int)) K w := by
  have hl8 := hL.1
  unfold tornEnd
  refine Write_ok s.d 1 0 torn (by omega) (by omega) (fun w1 h1 d1 t1 => ?_)
  have s1 := s.step d1 t1
  have hw := u.write (f := 1) (n := 0) (s := torn) (by omega) (by omega)
  simp only [Int.ofNat_zero, Int.natCast_zero] at hw
  rw [hw] at s1
  have u1 : Upp (addA A 1 0 torn) := u.add _ _
  have x1 : ((addA A 1 0 torn).F 1).1 = torn := by
    unfold addA
    split
    · rename_i e; rw [y1, e]
    · rename_i e
      have e2 := setF_same A.F 1 (putB (A.F 1).1 0 torn, (A.F 1).2)
      show (setF A.F 1 (putB (A.F 1).1 0 torn, (A.F 1).2) 1).1 = torn
      rw [e2]
      dsimp only
      rw [y1]
      exact putB_end [] torn e
  obtain ⟨B, ho, u2, x2, _⟩ := u1.openJ (f := 1) (by omega)
  rw [x1, ht] at ho
  dsimp only at s1
  refine openJ_ok s1 1 (fun w2 h2 r s2 t2 o2 => ?_)
  rw [ho] at s2 o2 ⊢
  dsimp only at s2 o2 ⊢
  obtain ⟨p, v, rfl, jn2, hj2⟩ := o2
  have g2 : Below w0.heap.size w0 w2 := bl.trans (below_of_step (t1.trans t2) hown bl.size)
  have r2 := hr0.below g2
  obtain ⟨la, lc, rfl, hlc⟩ := r2
  have hcap' := hcap _ _ _ rfl
  repeat (any_goals ((with_reducible refine idO ?_); (with_reducible refine oM_gen fun Kv hK=>?_); simp [go_sem]; refine hK _ _ ?_; clear hK; clear Kv))
  refine ⟨Below w2.heap.size w2, (Below.refl _ _).drew, ?_⟩
  refine ⟨trivial, ?_⟩
  have hsl : ∀ (W : World) (K : Value → World → Prop) (T : TypeId), oM Tryd.prog (.slice 23 (.tmp 0) none (some (.tmp 1)) none) T [.slice la l.length lc, .int .i64 (m : Nat)] K W = K (.slice la m lc) W := fun W K T => slTo m (by omega)
  repeat (first | (with_reducible refine pureH_in ?_) | (with_reducible refine oH_nil ?_) | (with_reducible refine gdH_true rfl ?_) | (with_reducible refine gdH_false rfl ?_) | (refine oH_of ⟨_, rfl⟩ (fun W0 hW0 => by (refine oM_gen (fun Kv hK => ?_)); simp [go_sem, nilJ]; (first | exact hK _ _ ⟨rfl, rfl⟩ | exact ⟨by omega, hK _ _ ⟨rfl, rfl⟩⟩)) ?_))
  refine pickH ?_
  repeat (first | (with_reducible refine pureH_in ?_) | (with_reducible refine oH_nil ?_) | (with_reducible refine gdH_true rfl ?_) | (with_reducible refine gdH_false rfl ?_) | (refine oH_of ⟨_, rfl⟩ (fun W0 hW0 => by (refine oM_gen (fun Kv hK => ?_)); simp [go_sem, hsl]; (first | exact hK _ _ ⟨rfl, rfl⟩ | exact ⟨by omega, hK _ _ ⟨rfl, rfl⟩⟩)) ?_))
  refine ⟨fun W W' => Below W.heap.size W W', fun u W => Cd.RowOf Cd.strV W u (l.take m), fun u W W' hb hr => hr.below hb, fun W hW => ?_, fun W hW u hr => ?_⟩
  · simp only [cond_false]
    repeat (any_goals (with_reducible ((refine idGd ?_); refine zC ?_)))
    exact all_ok (jn2.below hW) (fun v' w' ho hb => ⟨hW.trans (hb.mono hW.size), hb, Cd.RowOf.of_owns ho⟩)
  · simp only [cond_false]
    have hml : (l.take m).length = m := by simp; omega
    have rr : Cd.RowOf Cd.strV W (.slice la m lc) (l.take m) := by
      refine ⟨la, lc, by rw [hml], ?_⟩
      rcases hlc with hc | ⟨bx, ox, rfl, hbx, hc⟩
      · left; rw [hc]; simp
      · refine .inr ⟨bx, ox, rfl, Nat.lt_of_lt_of_le hbx hW.size, fun i hi => ?_⟩
        rw [hW.cell hbx, List.getElem_take]
        exact hc i (by omega)
    repeat (any_goals (with_reducible ((refine idGd ?_); refine zC ?_)))
    refine Cd.sameTexts_ok _ _ _ _ hr rr (by omega) (by omega) (fun w4 b4 => ?_)
    have hW4 := hW.trans (b4.mono hW.size)
    have s4 := s2.below hW4
    have jn4 := jn2.below hW4
    simp only [decide_true]
    have hle : (readJ torn).2 ≤ torn.length := by
      have h := readJ_spec torn
      have h1 := congrArg List.length h.2.2.1
      rw [List.length_append, ← h.2.1] at h1
      omega
    have hnf : (form [110, 101, 120, 116]).length ≤ 68 := form_len (s := [110, 101, 120, 116]) (by decide)
    obtain ⟨C, ha, u5, _, _⟩ := u2.append (f := 1) (j := ⟨l.take m, (readJ torn).2, false⟩) (t := [110, 101, 120, 116]) (by omega) rfl (by rw [x2, x1, List.length_take]; dsimp only; omega) (by decide) (by dsimp only; omega)
    repeat (any_goals (first
    | (with_reducible first|refine pureM_in ?_|((refine idGd ?_); first|refine zA ?_|refine zC ?_)|((refine idPick ?_); refine yC ?_)|((refine idCond ?_); refine yM ?_))
    | ((with_reducible refine idO ?_); (with_reducible refine oM_gen fun Kv hK=>?_); simp [go_sem]; refine hK _ _ ?_; clear hK; clear Kv)))
    refine append_ok s4 jn4 (by omega) [110, 101, 120, 116] (by decide) (fun w5 h5 v5 s5 jn5 t5 => ?_)
    rw [ha] at s5 jn5 ⊢
    dsimp only at s5 jn5 ⊢
    repeat (any_goals (first
    | (with_reducible first|refine pureM_in ?_|((refine idGd ?_); refine zA ?_)|((refine idPick ?_); refine yB ?_))
    | ((with_reducible refine idO ?_); (with_reducible refine oM_gen fun Kv hK=>?_); simp [go_sem]; refine hK _ _ ?_; clear hK; clear Kv)))
    refine len_ok jn5 ?_
    have hl5 : ((l.take m ++ [[110, 101, 120, 116]]).length : Int) = (m : Int) + 1 := by rw [List.length_append, hml]; rfl
    dsimp only
    rw [hl5]
    repeat (any_goals (first
    | (with_reducible first|refine pureM_in ?_|((refine idGd ?_); refine zA ?_)|((refine idPick ?_); refine yB ?_))
    | ((with_reducible refine idO ?_); (with_reducible refine oM_gen fun Kv hK=>?_); simp [go_sem]; (try simp (disch := omega) only [wrapI64, wrapU8, wrapU32, wrapU64]); refine hK _ _ ?_; clear hK; clear Kv)))
    refine get_ok jn5 m ?_
    have hg5 : (if (m : Int) < 0 then [] else (l.take m ++ [[110, 101, 120, 116]]).getD (m : Int).toNat []) = [110, 101, 120, 116] := by
      rw [if_neg (by omega)]
      simp [List.getD, List.getElem?_append, hml]
    dsimp only
    rw [hg5]
    repeat (any_goals (first
    | (with_reducible first|refine pureM_in ?_|((refine idGd ?_); refine zA ?_)|((refine idPick ?_); refine yB ?_))
    | ((with_reducible refine idO ?_); (with_reducible refine oM_gen fun Kv hK=>?_); simp [go_sem]; (try simp (disch := omega) only [wrapI64, wrapU8, wrapU32, wrapU64]); refine hK _ _ ?_; clear hK; clear Kv)))
    refine get_ok jn5 ((m : Int) + 1) ?_
    have hg6 : (if (m : Int) + 1 < 0 then [] else (l.take m ++ [[110, 101, 120, 116]]).getD ((m : Int) + 1).toNat []) = [] := by
      rw [if_neg (by omega), List.getD_eq_getElem?_getD, List.getElem?_eq_none (by rw [List.length_append, hml]; simp only [List.length_singleton]; omega)]
      rfl
    dsimp only
    rw [hg6]
    repeat (any_goals (first
    | (with_reducible first|refine pureM_in ?_|((refine idGd ?_); refine zA ?_)|((refine idPick ?_); refine yB ?_))
    | ((with_reducible refine idO ?_); (with_reducible refine oM_gen fun Kv hK=>?_); simp [go_sem]; refine hK _ _ ?_; clear hK; clear Kv)))
    refine get_ok jn5 (-1) ?_
    simp only [show ((-1 : Int) < 0) = True from by simp, if_true]
    repeat (any_goals (first
    | (refine makeBytes_at (e := 5) (i := (Tryd.prog.info? 5).getD default) (by kernel_rfl) (by kernel_rfl) (by kernel_rfl) (by kernel_rfl) (by kernel_rfl) 20001 (by omega) ?_)
    | (with_reducible first|refine pureM_in ?_|((refine idGd ?_); refine zA ?_)|((refine idPick ?_); refine yB ?_))
    | ((with_reducible refine idO ?_); (with_reducible refine oM_gen fun Kv hK=>?_); simp [go_sem]; refine hK _ _ ?_; clear hK; clear Kv)))
    intro hB6
    have b6 : Below w5.heap.size w5 (w5.alloc (.cells (Lib.byteCells (List.replicate 20001 0)).toArray 5)) := (Below.refl _ _).alloc (Nat.le_refl _) _
    have s6 := s5.below b6
    have jn6 := jn5.below b6
    generalize w5.alloc (.cells (Lib.byteCells (List.replicate 20001 0)).toArray 5) = w6 at *
    repeat (any_goals (with_reducible ((refine idGd ?_); refine zA ?_)))
    obtain ⟨N, hN⟩ : ∃ N : List UInt8, N = List.replicate 20001 0 := ⟨_, rfl⟩
    have hNl : N.length = 20001 := by rw [hN]; exact List.length_replicate
    rw [← hN] at hB6
    clear hN
    refine toStr_at (e := 5) (by kernel_rfl) (by kernel_rfl) (by kernel_rfl) hB6 hNl.symm ?_
    repeat (any_goals (with_reducible ((refine idGd ?_); refine zA ?_)))
    refine append_ok s6 jn6 (by omega) N (by omega) (fun w7 h7 v7 s7 jn7 t7 => ?_)
    rw [u5.append_long rfl (by omega)]
    have z0 := bl.size
    have z2 := g2.size
    have zW := hW4.size
    have z6 := b6.size
    have z1 := t1.fr.size
    have ho2 := own_step (t1.trans t2) hown z0
    have hj2' : ∀ i, JO p v i → w0.heap.size ≤ i := fun i hi => by have := hj2 i hi; omega
    have f4 : Below w0.heap.size w0 w4 := g2.trans (hW4.mono z2)
    have f5 : Below w0.heap.size w0 w5 := f4.trans (below_of_jst t5 ho2 hj2' (by omega))
    have z5 := t5.fr.size
    have f6 : Below w0.heap.size w0 w6 := f5.trans (b6.mono (by omega))
    have ho5 : ∀ i, Own b h5 i → w0.heap.size ≤ i := fun i hi => (t5.own i hi).elim (ho2 i) (fun h => by omega)
    have hj5 : ∀ i, JO p v5 i → w0.heap.size ≤ i := fun i hi => (t5.jo i hi).elim (hj2' i) (fun h => by omega)
    have f7 : Below w0.heap.size w0 w7 := f6.trans (below_of_jst t7 ho5 hj5 (by omega))
    repeat (any_goals (first
    | (with_reducible first|((refine idGd ?_); refine zA ?_)|((refine idPick ?_); refine yB ?_))
    | ((with_reducible refine idO ?_); (with_reducible refine oM_gen fun Kv hK=>?_); simp [go_sem]; refine hK _ _ ?_; clear hK; clear Kv)))
    exact k _ f7
set_option maxHeartbeats 1000000 in
theorem tail_ok {l : List Bs} {S Y : Bs} {a0 ev bv : Value} {n : Nat} (hL : Longs l) (hS : S = formL l) (hSl : S.length ≤ 160512) (s : Sys w b A h) (u : Upp A) (y1 : (A.F 1).1 = []) {w0 : World} (hr0 : Cd.RowOf Cd.strV w0 a0 l) (bl : Below w0.heap.size w0 w) (hown : ∀ i, Own b h i → w0.heap.size ≤ i) (hcap : ∀ a n c, a0 = .slice a n c → n ≤ c) (hre : Cd.RowOf Cd.intV w ev (endsL l l.length))
    (hB : BufM w 5 bv Y) (hY : Y.length = S.length) (hD : Dm S (Y.take n)) (hn : n ≤ S.length) (k : ∀ w', Below w0.heap.size w0 w' → K (.bool true) w') : tornTail a0 (.bool true) (dkP b) ev (bsV S) bv (.int .i64 (n : Int)) K w := by
  have hl8 := hL.1
  unfold tornTail
  obtain ⟨g, c, rfl, hgc, hBt⟩ := BufM.take hB n (by omega)
  refine sliceTo_at (sz := 1) (by kernel_rfl) (fun w => by kernel_rfl) n (by omega) ?_
  refine toStrM_at (e := 5) (by kernel_rfl) (by kernel_rfl) (by kernel_rfl) hBt ?_
  have htl : (Y.take n).length ≤ S.length := by simp; omega
  generalize Y.take n = torn at *
  clear hB hBt hgc hY
  obtain ⟨ea, ec, rfl, hec⟩ := hre
  rw [endsL_len] at *
  have hcut : ∀ m, m ≤ l.length → S.take (formL (l.take m)).length = formL (l.take m) := fun m hm => by
    have : formL l = formL (l.take m) ++ formL (l.drop m) := by rw [← formL_append, List.take_append_drop]
    rw [hS, this]
    simp
  refine ⟨fun vs W => ∃ m : Nat, vs = [.int .i64 (m : Int)] ∧ m ≤ l.length ∧ formL (l.take m) <+: torn ∧ Same w W, fun vs _ => match vs with | [.int _ n] => l.length - n.toNat | _ => 0,
    ⟨0, rfl, by omega, by simp [formL], ⟨rfl, rfl, rfl, rfl⟩⟩, ?_⟩
  rintro _ _ w1 ⟨m, rfl, hm, hpre, hw1⟩
  simp only [List.getD_cons_zero, List.getD_cons_succ]
  have finish : ∀ w2, Same w w2 → (m < l.length → ¬ formL (l.take (m + 1)) <+: torn) → (readJ torn).1 = l.take m := fun w2 _ hno =>
    torn_recs (l := l) hL.2 (by rw [← hS]; exact hD) hm hpre hno
  have rest : ∀ w2, Same w w2 → (m < l.length → ¬ formL (l.take (m + 1)) <+: torn) → tornEnd a0 (.bool true) (dkP b) (.string ⟨torn.toArray⟩) (.int .i64 (m : Int)) K w2 := by
    intro w2 hw2 hno
    exact end_ok hL (finish w2 hw2 hno) hm (by omega) (s.below hw2.below) u y1 hr0 (bl.trans (hw2.below.mono bl.size)) hown hcap k
  refine ⟨Same w, hw1, ?_⟩
  refine ⟨trivial, ?_⟩
  by_cases hlt : m < l.length
  · have heg := endsL_get l m (by rw [endsL_len]; exact hlt)
    rcases hec with hec | ⟨eb, eo, rfl, heb, hec⟩
    · have h9 := congrArg List.length hec; rw [endsL_len] at h9; simp only [List.length_nil] at h9; omega
    have ce := hec m (by rw [endsL_len]; exact hlt)
    simp only [Cd.intV] at ce
    rw [heg] at ce
    have hix := fun W => Cd.idx22 (b := eb) (o := eo) (c := ec) (n := l.length) hlt W
    obtain ⟨E, hE⟩ : ∃ E, E = (formL (l.take (m + 1))).length := ⟨_, rfl⟩
    have hcE := hcut (m + 1) (by omega)
    rw [← hE] at ce hcE
    have hEl : E ≤ S.length := by
      have := congrArg List.length hcE
      rw [← hE, List.length_take] at this
      omega
    have hext : ∀ x : List UInt8, (⟨x.toArray⟩ : ByteArray).extract 0 E = ⟨(x.take E).toArray⟩ := fun x => by rw [Cd.ba_extract]; simp
    by_cases hle : E ≤ torn.length
    · by_cases heq : torn.take E = S.take E
      · repeat (first | (with_reducible refine pureH_in ?_) | (with_reducible refine oH_nil ?_) | (with_reducible refine gdH_true rfl ?_) | (with_reducible refine gdH_false rfl ?_) | (refine oH_of ⟨_, rfl⟩ (fun W0 hW0 => by (refine oM_gen (fun Kv hK => ?_)); simp [go_sem, hix, hW0.cell, ce, hlt, hle]; (first | exact hK _ _ ⟨rfl, rfl⟩ | exact ⟨by omega, hK _ _ ⟨rfl, rfl⟩⟩)) ?_))
        refine pickH ?_
        repeat (first | (with_reducible refine pureH_in ?_) | (with_reducible refine oH_nil ?_) | (with_reducible refine gdH_true rfl ?_) | (with_reducible refine gdH_false rfl ?_) | (refine oH_of ⟨_, rfl⟩ (fun W0 hW0 => by (refine oM_gen (fun Kv hK => ?_)); simp [go_sem, hix, hW0.cell, ce, hlt, hle, heq]; (first | exact hK _ _ ⟨rfl, rfl⟩ | exact ⟨by omega, hK _ _ ⟨rfl, rfl⟩⟩)) ?_))
        refine pickH ?_
        repeat (first | (with_reducible refine pureH_in ?_) | (with_reducible refine oH_nil ?_) | (with_reducible refine gdH_true rfl ?_) | (with_reducible refine gdH_false rfl ?_) | (refine oH_of ⟨_, rfl⟩ (fun W0 hW0 => by (refine oM_gen (fun Kv hK => ?_)); simp [go_sem]; (first | exact hK _ _ ⟨rfl, rfl⟩ | exact ⟨by omega, hK _ _ ⟨rfl, rfl⟩⟩)) ?_))
        refine ⟨fun _ _ => True, fun w2 hw2 => ?_⟩
        simp only [cond_true]
        repeat (any_goals (first
        | (with_reducible ((refine idCond ?_); refine yL ?_))
        | ((with_reducible refine idO ?_); (with_reducible refine oM_gen fun Kv hK=>?_); simp [go_sem]; (try simp (disch := omega) only [wrapI64, wrapU8, wrapU32, wrapU64]); refine hK _ _ ?_; clear hK; clear Kv)))
        refine ⟨⟨m + 1, rfl, hlt, ?_, hw2⟩, by simp; omega⟩
        rw [← hcE, ← heq]
        exact List.take_prefix _ _
      · repeat (first | (with_reducible refine pureH_in ?_) | (with_reducible refine oH_nil ?_) | (with_reducible refine gdH_true rfl ?_) | (with_reducible refine gdH_false rfl ?_) | (refine oH_of ⟨_, rfl⟩ (fun W0 hW0 => by (refine oM_gen (fun Kv hK => ?_)); simp [go_sem, hix, hW0.cell, ce, hlt, hle]; (first | exact hK _ _ ⟨rfl, rfl⟩ | exact ⟨by omega, hK _ _ ⟨rfl, rfl⟩⟩)) ?_))
        refine pickH ?_
        repeat (first | (with_reducible refine pureH_in ?_) | (with_reducible refine oH_nil ?_) | (with_reducible refine gdH_true rfl ?_) | (with_reducible refine gdH_false rfl ?_) | (refine oH_of ⟨_, rfl⟩ (fun W0 hW0 => by (refine oM_gen (fun Kv hK => ?_)); simp [go_sem, hix, hW0.cell, ce, hlt, hle, heq]; (first | exact hK _ _ ⟨rfl, rfl⟩ | exact ⟨by omega, hK _ _ ⟨rfl, rfl⟩⟩)) ?_))
        refine pickH ?_
        repeat (first | (with_reducible refine pureH_in ?_) | (with_reducible refine oH_nil ?_) | (with_reducible refine gdH_true rfl ?_) | (with_reducible refine gdH_false rfl ?_) | (refine oH_of ⟨_, rfl⟩ (fun W0 hW0 => by (refine oM_gen (fun Kv hK => ?_)); simp [go_sem]; (first | exact hK _ _ ⟨rfl, rfl⟩ | exact ⟨by omega, hK _ _ ⟨rfl, rfl⟩⟩)) ?_))
        have hno : ¬ formL (l.take (m + 1)) <+: torn := fun hp => by
          have h1 := List.prefix_iff_eq_take.1 hp
          rw [← hE] at h1
          exact heq (by rw [← h1, hcE])
        refine ⟨fun _ _ => True, fun w2 hw2 => ?_⟩
        simp only [cond_true]
        repeat (any_goals (with_reducible ((refine idCond ?_); refine yM ?_)))
        have := rest w2 hw2 (fun _ => hno)
        unfold tornEnd at this
        exact this
    · repeat (first | (with_reducible refine pureH_in ?_) | (with_reducible refine oH_nil ?_) | (with_reducible refine gdH_true rfl ?_) | (with_reducible refine gdH_false rfl ?_) | (refine oH_of ⟨_, rfl⟩ (fun W0 hW0 => by (refine oM_gen (fun Kv hK => ?_)); simp [go_sem, hix, hW0.cell, ce, hlt, hle]; (first | exact hK _ _ ⟨rfl, rfl⟩ | exact ⟨by omega, hK _ _ ⟨rfl, rfl⟩⟩)) ?_))
      refine pickH ?_
      repeat (first | (with_reducible refine pureH_in ?_) | (with_reducible refine oH_nil ?_) | (with_reducible refine gdH_true rfl ?_) | (with_reducible refine gdH_false rfl ?_) | (refine oH_of ⟨_, rfl⟩ (fun W0 hW0 => by (refine oM_gen (fun Kv hK => ?_)); simp [go_sem]; (first | exact hK _ _ ⟨rfl, rfl⟩ | exact ⟨by omega, hK _ _ ⟨rfl, rfl⟩⟩)) ?_))
      refine pickH ?_
      repeat (first | (with_reducible refine pureH_in ?_) | (with_reducible refine oH_nil ?_) | (with_reducible refine gdH_true rfl ?_) | (with_reducible refine gdH_false rfl ?_) | (refine oH_of ⟨_, rfl⟩ (fun W0 hW0 => by (refine oM_gen (fun Kv hK => ?_)); simp [go_sem]; (first | exact hK _ _ ⟨rfl, rfl⟩ | exact ⟨by omega, hK _ _ ⟨rfl, rfl⟩⟩)) ?_))
      have hno : ¬ formL (l.take (m + 1)) <+: torn := fun hp => by
        have h1 := hp.length_le
        rw [← hE] at h1
        exact hle h1
      refine ⟨fun _ _ => True, fun w2 hw2 => ?_⟩
      simp only [cond_false]
      repeat (any_goals (with_reducible ((refine idCond ?_); refine yM ?_)))
      have := rest w2 hw2 (fun _ => hno)
      unfold tornEnd at this
      exact this
  · repeat (first | (with_reducible refine pureH_in ?_) | (with_reducible refine oH_nil ?_) | (with_reducible refine gdH_true rfl ?_) | (with_reducible refine gdH_false rfl ?_) | (refine oH_of ⟨_, rfl⟩ (fun W0 hW0 => by (refine oM_gen (fun Kv hK => ?_)); simp [go_sem, hlt]; (first | exact hK _ _ ⟨rfl, rfl⟩ | exact ⟨by omega, hK _ _ ⟨rfl, rfl⟩⟩)) ?_))
    refine pickH ?_
    repeat (first | (with_reducible refine pureH_in ?_) | (with_reducible refine oH_nil ?_) | (with_reducible refine gdH_true rfl ?_) | (with_reducible refine gdH_false rfl ?_) | (refine oH_of ⟨_, rfl⟩ (fun W0 hW0 => by (refine oM_gen (fun Kv hK => ?_)); simp [go_sem]; (first | exact hK _ _ ⟨rfl, rfl⟩ | exact ⟨by omega, hK _ _ ⟨rfl, rfl⟩⟩)) ?_))
    refine pickH ?_
    repeat (first | (with_reducible refine pureH_in ?_) | (with_reducible refine oH_nil ?_) | (with_reducible refine gdH_true rfl ?_) | (with_reducible refine gdH_false rfl ?_) | (refine oH_of ⟨_, rfl⟩ (fun W0 hW0 => by (refine oM_gen (fun Kv hK => ?_)); simp [go_sem]; (first | exact hK _ _ ⟨rfl, rfl⟩ | exact ⟨by omega, hK _ _ ⟨rfl, rfl⟩⟩)) ?_))
    refine ⟨fun _ _ => True, fun w2 hw2 => ?_⟩
    simp only [cond_false]
    repeat (any_goals (with_reducible ((refine idCond ?_); refine yM ?_)))
    have := rest w2 hw2 (fun h => absurd h hlt)
    unfold tornEnd at this
    exact this
end
end Go.Proofs
namespace Go.Proofs
open Go Go.Sh Go.RowKit CodeSpec JnSpec DkSpec
set_option linter.unusedSimpArgs false
set_option linter.unusedVariables false
set_option maxRecDepth 10000
attribute [local go_sem] oM_indexAddr
theorem torn1 : (openJ newA 0).1 = some ⟨[], 0, false⟩ ∧ (openJ newA 0).2.1 = 0 := by constructor <;> kernel_rfl
theorem torn1u : Upp (openJ newA 0).2.2 ∧ ((openJ newA 0).2.2.F 0).1 = [] ∧ ((openJ newA 0).2.2.F 1).1 = [] := by
  refine ⟨⟨?_, ?_, ?_⟩, ?_, ?_⟩ <;> kernel_rfl
section
variable {w w' w2 : World} {K : Value → World → Prop}
set_option maxHeartbeats 1000000 in
theorem torn_ok {l : List Bs} {z : List Int} {a0 a2 : Value} {size : Int} (hl : Cd.Laid w) (hr0 : Cd.RowOf Cd.strV w a0 l) (hr2 : Cd.RowOf Cd.intV w a2 z) (hcap : ∀ a n c, a0 = .slice a n c → n ≤ c) (hll : l.length ≤ 9223372036854775807) (k : ∀ w', Below w.heap.size w w' → K (.bool true) w') : callM Tryd.prog 8 #[a0, .int .i64 size, a2] K w := by
  apply sh_8_ok
  unfold sh_8
  refine sane_ok hl (fun w1 b1 => ?_)
  have l1 := hl.below b1 hl.size
  have r01 := hr0.below b1
  have r21 := hr2.below b1
  clear hr0 hr2
  refine oneLong_ok r01 hll (fun r hr => ?_)
  obtain ⟨za, zc, rfl, hzc⟩ := id r21
  cases r with
  | false =>
    repeat (any_goals (first
    | (with_reducible first|((refine idGd ?_); refine zD ?_)|((refine idPick ?_); refine yB ?_)|((refine idCond ?_); refine yL ?_))
    | ((with_reducible refine idO ?_); (with_reducible refine oM_gen fun Kv hK=>?_); simp [go_sem]; refine hK _ _ ?_; clear hK; clear Kv)))
    exact k _ b1
  | true =>
  have hL := hr rfl
  have hl8 := hL.1
  by_cases hz : (320 : Int) < z.length
  · repeat (any_goals (first
    | (with_reducible first|refine pureM_in ?_|((refine idGd ?_); refine zC ?_)|((refine idPick ?_); refine yC ?_)|((refine idCond ?_); refine yN ?_))
    | ((with_reducible refine idO ?_); (with_reducible refine oM_gen fun Kv hK=>?_); simp [go_sem]; refine hK _ _ ?_; clear hK; clear Kv)))
    exact k _ b1
  repeat (any_goals (first
  | (with_reducible first|refine pureM_in ?_|((refine idGd ?_); refine zC ?_)|((refine idPick ?_); refine yC ?_)|((refine idCond ?_); refine yO ?_))
  | ((with_reducible refine idO ?_); (with_reducible refine oM_gen fun Kv hK=>?_); simp [go_sem]; refine hK _ _ ?_; clear hK; clear Kv)))
  refine newSys_ok l1 (fun w2 b h2 s2 b2 o2 => ?_)
  repeat (any_goals (first
  | (with_reducible ((refine idCond ?_); refine yM ?_))
  | ((with_reducible refine idO ?_); (with_reducible refine oM_gen fun Kv hK=>?_); simp [go_sem]; refine hK _ _ ?_; clear hK; clear Kv)))
  refine openJ_ok s2 0 (fun w3 h3 r s3 t3 o3 => ?_)
  rw [torn1.1] at o3
  rw [torn1.2]
  obtain ⟨p, v, rfl, jn3, hj3⟩ := o3
  have b3 := b2.trans (below_of_step t3 o2 b2.size)
  have o3 := own_step t3 o2 b2.size
  obtain ⟨u3, x3, y3⟩ := torn1u
  repeat (any_goals (first
  | (with_reducible ((refine idCond ?_); refine yM ?_))
  | ((with_reducible refine idO ?_); (with_reducible refine oM_gen fun Kv hK=>?_); simp [go_sem]; refine hK _ _ ?_; clear hK; clear Kv)))
  refine ⟨fun vs W => ∃ (i : Nat) (A : Ab) (h : Dk) (v : Value) (ev : Value), vs = [.bool false, ev, .int .i64 (i : Int)] ∧ i ≤ l.length ∧ TJ w1 W b p l i A h v ev, fun vs _ => match vs with | [_, _, .int _ n] => l.length - n.toNat | _ => 0,
    ⟨0, _, h3, v, .slice none 0 0, rfl, by omega, ⟨s3, jn3, u3, x3, y3, World.ownsRow_nil _ _ _ _, (fun k hk => by cases hk), b3, ?_⟩⟩, ?_⟩
  · rintro i (hi | hi | hi)
    · exact o3 i hi
    · exact Nat.le_trans b2.size (hj3 i hi)
    · cases hi
  clear s3 jn3 u3 x3 y3 b3 o3 hj3 t3 s2 b2 o2
  rintro _ _ w4 ⟨i, A, h4, v4, ev, rfl, hi, T⟩
  simp only [List.getD_cons_zero, List.getD_cons_succ]
  have r04 := r01.below T.bl
  have r24 := r21.below T.bl
  obtain ⟨la, lc, rfl, hlc⟩ := id r04
  by_cases hlt : i < l.length
  · rcases hlc with hc | ⟨bx, ox, rfl, hbx, hc⟩
    · rw [hc] at hlt; simp at hlt
    have c1 := hc i hlt
    simp only [Cd.strV] at c1
    have hix := Cd.idx23 (b := bx) (o := ox) (c := lc) hlt w4
    repeat (any_goals (first
    | (with_reducible ((refine idCond ?_); refine yN ?_))
    | ((with_reducible refine idO ?_); (with_reducible refine oM_gen fun Kv hK=>?_); simp [go_sem, hix, c1]; refine hK _ _ ?_; clear hK; clear Kv)))
    refine T.append hL hlt l1.size (fun w5 A5 h5 v5 s5 jn5 u5 x5 y5 e5 sep5 bl5 new5 => ?_)
    repeat (any_goals (first
    | (with_reducible ((refine idCond ?_); refine yM ?_))
    | ((with_reducible refine idO ?_); (with_reducible refine oM_gen fun Kv hK=>?_); simp [go_sem]; refine hK _ _ ?_; clear hK; clear Kv)))
    refine size_ok s5.d 0 ?_
    have e5' : w5.ownsRow 0 3 1 ev (endsL l i).length ((endsL l i).map Cd.intV) := by rw [endsL_len]; exact e5
    rw [x5]
    refine ends_at s5 jn5 e5' (by rw [endsL_len]; omega) sep5 bl5 new5 l1.size (fun ev6 w6 s6 jn6 e6 sep6 bl6 new6 => ?_)
    rw [endsL_len, ← endsL_succ] at e6
    repeat (any_goals ((with_reducible refine idO ?_); (with_reducible refine oM_gen fun Kv hK=>?_); simp [go_sem]; (try simp (disch := omega) only [wrapI64, wrapU8, wrapU32, wrapU64]); refine hK _ _ ?_; clear hK; clear Kv))
    exact ⟨⟨i + 1, A5, h5, v5, ev6, rfl, by omega, ⟨s6, jn6, u5, x5, y5, e6, sep6, bl6, new6⟩⟩, by simp; omega⟩
  · obtain rfl : i = l.length := by omega
    have T' := T
    obtain ⟨s4, jn4, u4, x4, y4, e4, sep4, bl4, new4⟩ := T'
    rw [List.take_length] at x4
    have hS : (formL l).length ≤ 160512 := by
      have h1 := formL_bound hL.2
      have h2 := hL.1
      have h3 : l.length * 20064 ≤ 8 * 20064 := Nat.mul_le_mul_right _ h2
      omega
    repeat (any_goals (first
    | (with_reducible ((refine idCond ?_); refine yM ?_))
    | ((with_reducible refine idO ?_); (with_reducible refine oM_gen fun Kv hK=>?_); simp [go_sem]; refine hK _ _ ?_; clear hK; clear Kv)))
    refine size_ok s4.d 0 ?_
    refine read_ok s4.d 0 0 _ ?_
    rw [read_all u4.down (by omega), x4]
    obtain ⟨S, eS⟩ : ∃ S, S = formL l := ⟨_, rfl⟩
    rw [← eS] at hS ⊢
    repeat (any_goals ((with_reducible refine idO ?_); (with_reducible refine oM_gen fun Kv hK=>?_); simp [go_sem]; refine hK _ _ ?_; clear hK; clear Kv))
    refine ofStr_at (e := 5) (by kernel_rfl) (by kernel_rfl) (by kernel_rfl) S (fun bv w5 hB5 hg5 hv5 hz5 => ?_)
    refine ⟨fun vs W => ∃ i : Nat, vs = [.int .i64 (i : Int)] ∧ i ≤ S.length ∧ BufM W 5 bv ((zeroB z S).take i ++ S.drop i) ∧ Below w4.heap.size w4 W, fun vs _ => match vs with | [.int _ n] => S.length - n.toNat | _ => 0,
      ⟨0, rfl, by omega, by simpa using hB5, Cd.below_of_grown hg5 (Nat.le_refl _) (fun k hk => by cases hk)⟩, ?_⟩
    rintro _ _ w6 ⟨i, rfl, hi6, hB6, b6⟩
    simp only [List.getD_cons_zero, List.getD_cons_succ]
    obtain ⟨g6, c6, hve, _⟩ := hB6.shape
    subst hve
    have hl6 : ((zeroB z S).take i ++ S.drop i).length = S.length := by simp [zeroB_len]; omega
    obtain ⟨Z, eZ⟩ : ∃ Z, Z = (zeroB z S).take i ++ S.drop i := ⟨_, rfl⟩
    rw [← eZ] at hB6 hl6 ⊢
    by_cases hrun : i < S.length ∧ 0 < z.length
    · obtain ⟨hri, hrz⟩ := hrun
      obtain ⟨g7, c7, hv7, cz, fz, ixz, Bz⟩ := BufM.at_ hB6 (i := i) (by omega)
      cases hv7
      rw [hl6] at ixz ⊢
      have hst := zeroB_step z S i hri
      rw [← eZ] at hst
      repeat (any_goals (first
      | (with_reducible first|refine pureM_in ?_|((refine idGd ?_); ((refine idGdD ?_); refine zF ?_))|((refine idPick ?_); refine yD ?_)|((refine idCond ?_); refine yN ?_))
      | ((with_reducible refine idO ?_); (with_reducible refine oM_gen fun Kv hK=>?_); simp [go_sem]; refine hK _ _ ?_; clear hK; clear Kv)))
      refine ⟨fun vs W => BufM W 5 (.slice (some ⟨g6, 0, none⟩) S.length c6) ((zeroB z S).take (i + 1) ++ S.drop (i + 1)) ∧ Below w4.heap.size w4 W, ?_, ?_⟩
      · have hq : ((i : Int)).tdiv 64 = ((i / 64 : Nat) : Int) := by rw [Int.tdiv_eq_ediv_of_nonneg (by omega)]; rfl
        have hmod : ((i : Int) / 64).tmod (z.length : Int) = ((i / 64 % z.length : Nat) : Int) := by
          rw [Int.tmod_eq_emod_of_nonneg (by omega)]; rfl
        have hml : i / 64 % z.length < z.length := Nat.mod_lt _ hrz
        obtain ⟨m, em⟩ : ∃ m, m = i / 64 % z.length := ⟨_, rfl⟩
        rw [← em] at hmod hml hst
        rcases hzc with hzc | ⟨zb, zo, rfl, hzb, hzc⟩
        · rw [hzc] at hrz; simp at hrz
        have cm := hzc m hml
        rw [← (T.bl.trans (b6.mono T.bl.size)).cell hzb] at cm
        simp only [Cd.intV] at cm
        have hixm := Cd.idx22 (b := zb) (o := zo) (c := zc) hml w6
        have hgd : z.getD m 0 = z[m] := by simp [List.getD, hml]
        rw [hgd] at hst
        have hzn : ¬ z = [] := fun e => by rw [e] at hrz; simp at hrz
        have hzl : ¬ (z.length : Int) = 0 := by omega
        repeat (any_goals (first
        | (with_reducible ((refine idCond ?_); refine yP (fun hg=>?_) fun hg=>?_))
        | ((with_reducible refine idO ?_); (with_reducible refine oM_gen fun Kv hK=>?_); simp [go_sem, hq, hmod, hixm, cm, ixz, cz, fz, hzn, hzl]; (try simp (disch := omega) only [wrapI64, wrapU8, wrapU32, wrapU64]); refine hK _ _ ?_; clear hK; clear Kv)))
        · have hg : z[m] % 2 = 1 := by assumption
          have e1 := hst.1.resolve_right (fun h => h ⟨hrz, hg⟩)
          rw [hl6, e1] at Bz
          have hg6 : g6 = w4.heap.size := by simpa [Value.ownBlock] using hv5
          exact ⟨Bz, b6.trans (Cd.below_of_grown (grown_setCell w6 _ _) b6.size (fun k hk => by cases hk; exact Nat.le_of_eq hg6.symm))⟩
        · have hg : ¬ z[m] % 2 = 1 := by assumption
          have e1 := hst.2.resolve_left (fun h => hg h.2)
          rw [hl6, e1] at hB6
          exact ⟨hB6, b6⟩
      · rintro vs _ w7 ⟨hB7, b7⟩
        repeat (any_goals ((with_reducible refine idO ?_); (with_reducible refine oM_gen fun Kv hK=>?_); simp [go_sem]; (try simp (disch := omega) only [wrapI64, wrapU8, wrapU32, wrapU64]); refine hK _ _ ?_; clear hK; clear Kv))
        exact ⟨⟨i + 1, rfl, by omega, hB7, b7⟩, by simp; omega⟩
    · have hZ : Z = zeroB z S := by
        by_cases he : i = S.length
        · rw [eZ, he, List.take_of_length_le (by rw [zeroB_len]; exact Nat.le_refl _)]; simp
        · have hz0 : z.length = 0 := by
            refine Classical.byContradiction fun h => hrun ⟨by omega, by omega⟩
          have e0 : zeroB z S = S := by
            unfold zeroB
            simp only [hz0, Nat.lt_irrefl, false_and, if_false]
            exact List.ext_getElem (by simp) (fun k h1 h2 => by simp)
          rw [eZ, e0, List.take_append_drop]
      rw [hl6]
      rw [hZ] at hB6
      have htail : tornTail (.slice la l.length lc) (.bool true) (dkP b) ev (bsV S) (.slice (some ⟨g6, 0, none⟩) S.length c6) (.int .i64 (max 0 (min size (S.length : Int)))) K w6 := by
        have hn : max 0 (min size (S.length : Int)) = (((max 0 (min size (S.length : Int))).toNat : Nat) : Int) := by omega
        rw [hn]
        have e4' : w4.ownsRow 0 3 1 ev (endsL l l.length).length ((endsL l l.length).map Cd.intV) := by rw [endsL_len]; exact e4
        rw [zeroB_len] at hB6
        exact tail_ok hL eS hS (s4.below b6) u4 y4 r01 (T.bl.trans (b6.mono T.bl.size)) (fun k hk => T.new k (.inl hk)) hcap ((Cd.RowOf.of_owns e4').below b6) hB6 (zeroB_len z S) (zeroB_dm z S _) (by omega) (fun w' hb => k w' (b1.trans (hb.mono b1.size)))
      by_cases he : i = S.length
      · repeat (any_goals (first
        | (with_reducible first|((refine idGd ?_); ((refine idGdD ?_); refine zG ?_))|((refine idPick ?_); refine yE ?_)|((refine idCond ?_); refine yM ?_))
        | ((with_reducible refine idO ?_); (with_reducible refine oM_gen fun Kv hK=>?_); simp [go_sem]; refine hK _ _ ?_; clear hK; clear Kv)))
        exact htail
      · have hz0 : z.length = 0 := by
          refine Classical.byContradiction fun h => hrun ⟨by omega, by omega⟩
        repeat (any_goals (first
        | (with_reducible first|refine pureM_in ?_|((refine idGd ?_); ((refine idGdD ?_); refine zF ?_))|((refine idPick ?_); refine yD ?_)|((refine idCond ?_); refine yO ?_))
        | ((with_reducible refine idO ?_); (with_reducible refine oM_gen fun Kv hK=>?_); simp [go_sem]; refine hK _ _ ?_; clear hK; clear Kv)))
        exact htail
end
end Go.Proofs
