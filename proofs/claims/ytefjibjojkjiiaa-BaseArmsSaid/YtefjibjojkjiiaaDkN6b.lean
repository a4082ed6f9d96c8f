/- DkN6b: a part of the proof of the seat's statements: lemmas about the given translation and plain laws. No condition of its own. -/
--Q
import Derived.Test.YtefjibjojkjiiaaDkN6
set_option linter.all false
namespace Go.Proofs
open Go Go.Sh Go.RowKit DkSpec
set_option linter.unusedSimpArgs false
set_option linter.unusedVariables false
set_option maxRecDepth 10000
def armHead (a0 a1 a2 v33_14 v34_15 v15_1 cnt idx y : Value) (M_26 : List Value → World → Prop) (K : Value → World → Prop) (w : World) : Prop :=
 (oM Try.prog (Go.Op.indexAddr 22 (.tmp 0) (.tmp 1)) 0 [a0, idx] (fun v53_28 w =>
 oM Try.prog (Go.Op.fieldAddr 33 (.tmp 0) 0) 0 [v53_28] (fun v54_29 w =>
 oM Try.prog (Go.Op.load 3 (.tmp 0)) 3 [v54_29] (fun v55_30 w =>
 oM Try.prog (Go.Op.binOp Go.BinOp.and 3 (.tmp 0) (.tmp 1) 3) 3 [v55_30, (.int .i64 7)] (fun v56_31 w =>
 oM Try.prog (Go.Op.binOp Go.BinOp.gtr 3 (.tmp 0) (.tmp 1) 3) 4 [v56_31, (.int .i64 4)] (fun v58_32 w =>
 condM v58_32
 (K v15_1 w)
 (joinM (fun M_33 => (oM Try.prog (Go.Op.binOp Go.BinOp.lss 3 (.tmp 0) (.tmp 1) 3) 4 [v56_31, (.int .i64 4)] (fun v61_35 w =>
 condM v61_35
 (oM Try.prog (Go.Op.binOp Go.BinOp.add 3 (.tmp 0) (.tmp 1) 3) 3 [cnt, (.int .i64 1)] (fun v63_36 w =>
 M_33 [v63_36] w) w)
 (M_33 [cnt] w)) w))
 (fun l_34 u_l_34 w => (oM Try.prog (Go.Op.indexAddr 22 (.tmp 0) (.tmp 1)) 0 [a0, idx] (fun v67_37 w =>
 oM Try.prog (Go.Op.load 33 (.tmp 0)) 33 [v67_37] (fun v68_38 w =>
 callM Try.prog 11 #[v33_14, v68_38] (fun v69_39 w =>
 oM Try.prog (Go.Op.binOp Go.BinOp.lss 3 (.tmp 0) (.tmp 1) 3) 4 [(l_34.getD 0 undef), a1] (fun v72_40 w =>
 gdM (gd v72_40 false) (pureM (l_34.getD 0 undef)) (fun v74_41 w =>
 gdM (gd v72_40 false) (pureM a1) (fun v75_42 w =>
 gdM (gd v72_40 false) (oM Try.prog (Go.Op.binOp Go.BinOp.eql 3 (.tmp 0) (.tmp 1) 3) 4 [v74_41, v75_42]) (fun v76_43 w =>
 gdM (gd v72_40 false) (pureM v76_43) (fun v77_44 w =>
 gdM (gd v77_44 true) (pureM v56_31) (fun v78_45 w =>
 gdM (gd v77_44 true) (oM Try.prog (Go.Op.binOp Go.BinOp.eql 3 (.tmp 0) (.const (.int .i64 4)) 3) 4 [v78_45]) (fun v79_46 w =>
 gdM (gd v72_40 false) (oM Try.prog (Go.Op.pick (.tmp 0) (.tmp 1) (.tmp 2)) 4 [v77_44, v79_46, (.bool false)]) (fun v80_47 w =>
 gdM (gd v72_40 false) (pureM v80_47) (fun v81_48 w =>
 gdM (gd v81_48 true) (pureM v33_14) (fun v82_49 w =>
 gdM (gd v81_48 true) (callM Try.prog 13 #[v82_49]) (fun v83_50 w =>
 gdM (gd v81_48 true) (oM Try.prog (Go.Op.unOp Go.UnOp.not 4 (.tmp 0)) 4 [v83_50]) (fun v84_51 w =>
 gdM (gd v72_40 false) (oM Try.prog (Go.Op.pick (.tmp 0) (.tmp 1) (.tmp 2)) 4 [v81_48, v84_51, (.bool false)]) (fun v85_52 w =>
 oM Try.prog (Go.Op.pick (.tmp 0) (.tmp 1) (.tmp 2)) 4 [v72_40, (.bool true), v85_52] (fun v86_53 w =>
 condM v86_53
 (oM Try.prog (Go.Op.indexAddr 22 (.tmp 0) (.tmp 1)) 0 [a0, idx] (fun v91_54 w =>
 oM Try.prog (Go.Op.load 33 (.tmp 0)) 33 [v91_54] (fun v92_55 w =>
 callM Try.prog 11 #[v34_15, v92_55] (fun v93_56 w =>
 oM Try.prog (Go.Op.binOp Go.BinOp.neq 29 (.tmp 0) (.tmp 1) 29) 4 [v69_39, v93_56] (fun v94_57 w =>
 condM v94_57
 (K (.bool false) w)
 (M_26 [v56_31, y, (l_34.getD 0 undef), v69_39] w)) w) w) w) w)
 (joinM (fun M_58 => (oM Try.prog (Go.Op.binOp Go.BinOp.eql 3 (.tmp 0) (.tmp 1) 3) 4 [(l_34.getD 0 undef), a1] (fun v97_60 w =>
 gdM (gd v97_60 true) (pureM v56_31) (fun v99_61 w =>
 gdM (gd v97_60 true) (oM Try.prog (Go.Op.binOp Go.BinOp.lss 3 (.tmp 0) (.tmp 1) 3) 4 [v99_61, (.int .i64 2)]) (fun v100_62 w =>
 oM Try.prog (Go.Op.pick (.tmp 0) (.tmp 1) (.tmp 2)) 4 [v97_60, v100_62, (.bool false)] (fun v101_63 w =>
 condM v101_63
 (oM Try.prog (Go.Op.indexAddr 22 (.tmp 0) (.tmp 1)) 0 [a0, idx] (fun v105_64 w =>
 oM Try.prog (Go.Op.load 33 (.tmp 0)) 33 [v105_64] (fun v106_65 w =>
 callM Try.prog 11 #[v34_15, v106_65] (fun v107_66 w =>
 M_58 [] w) w) w) w)
 (M_58 [] w)) w) w) w) w))
 (fun l_59 u_l_59 w => (joinM (fun M_67 => (oM Try.prog (Go.Op.binOp Go.BinOp.eql 3 (.tmp 0) (.tmp 1) 3) 4 [(l_34.getD 0 undef), a1] (fun v110_69 w =>
 gdM (gd v110_69 true) (pureM v56_31) (fun v112_70 w =>
 gdM (gd v110_69 true) (oM Try.prog (Go.Op.binOp Go.BinOp.lss 3 (.tmp 0) (.tmp 1) 3) 4 [v112_70, (.int .i64 4)]) (fun v113_71 w =>
 oM Try.prog (Go.Op.pick (.tmp 0) (.tmp 1) (.tmp 2)) 4 [v110_69, v113_71, (.bool false)] (fun v114_72 w =>
 condM v114_72
 (callM Try.prog 24 #[v34_15, a2] (fun v117_73 w =>
 M_67 [] w) w)
 (M_67 [] w)) w) w) w) w))
 (fun l_68 u_l_68 w => (oM Try.prog (Go.Op.binOp Go.BinOp.lss 3 (.tmp 0) (.tmp 1) 3) 4 [v56_31, (.int .i64 4)] (fun v119_74 w =>
 gdM (gd v119_74 true) (pureM v69_39) (fun v121_75 w =>
 gdM (gd v119_74 true) (oM Try.prog (Go.Op.binOp Go.BinOp.neq 29 (.tmp 0) (.const (.int .i64 8)) 29) 4 [v121_75]) (fun v122_76 w =>
 oM Try.prog (Go.Op.pick (.tmp 0) (.tmp 1) (.tmp 2)) 4 [v119_74, v122_76, (.bool false)] (fun v123_77 w =>
 gdM (gd v123_77 false) (pureM v33_14) (fun v125_78 w =>
 gdM (gd v123_77 false) (callM Try.prog 13 #[v125_78]) (fun v126_79 w =>
 gdM (gd v123_77 false) (oM Try.prog (Go.Op.unOp Go.UnOp.not 4 (.tmp 0)) 4 [v126_79]) (fun v127_80 w =>
 oM Try.prog (Go.Op.pick (.tmp 0) (.tmp 1) (.tmp 2)) 4 [v123_77, (.bool true), v127_80] (fun v128_81 w =>
 condM v128_81
 (K (.bool false) w)
 (M_26 [v56_31, y, (l_34.getD 0 undef), v69_39] w)) w) w) w) w) w) w) w) w)))))) w) w) w) w) w) w) w) w) w) w) w) w) w) w) w) w) w)))) w) w) w) w) w)
section
variable {n : Nat} {w w1 : World} {b b' : Nat} {A A' A1 C : Ab} {h h' h1 : Dk} {K : Value → World → Prop}
/-- the two disks before and after the crash -/
def Rel6 (n cnt : Int) (kl : List Int) (A C : Ab) : Prop :=
  (cnt < n ∧ A = arm2 C (n - cnt) kl ∧ C.armed = 0 ∧ C.down = false) ∨ (n ≤ cnt ∧ A.F = C.F ∧ A.down = true ∧ C.down = true)
theorem kinds (x : Act) (A : Ab) (h4 : x.k % 8 < 4) : doA A x = if x.k % 8 = 2 then syncA A x.f else if x.k % 8 = 3 then truncA A x.f x.n else writeA A x.f x.n x.s := by
  unfold doA
  rw [if_neg (by omega : ¬ x.k % 8 = 4), if_neg (by omega : ¬ x.k % 8 = 5), if_neg (by omega : ¬ x.k % 8 = 6), if_neg (by omega : ¬ x.k % 8 = 7)]
theorem sim1 {C : Ab} {a : Int} {kl : List Int} (x : Act) (h4 : x.k % 8 < 4) (hd : C.down = false) (hc : C.armed = 0) (ha : 2 ≤ a) : (doA (arm2 C a kl) x).1 = (doA C x).1 ∧ (doA (arm2 C a kl) x).2 = arm2 (doA C x).2 (a - 1) kl ∧ (doA C x).2.armed = 0 ∧ (doA C x).2.down = false := by
  rw [kinds x _ h4, kinds x _ h4]
  split
  · exact sync_sim hd hc ha _
  · split
    · exact trunc_sim hd hc ha _ _
    · exact write_sim hd hc ha _ _ _
theorem sim4 {C : Ab} {a : Int} {kl : List Int} (x : Act) (h4 : x.k % 8 = 4) : (doA (arm2 C a kl) x).1 = (doA C x).1 ∧ (doA (arm2 C a kl) x).2 = arm2 (doA C x).2 a kl ∧ (doA C x).2.armed = C.armed ∧ (doA C x).2.down = C.down := by
  unfold doA
  rw [if_neg (by omega), if_neg (by omega), if_pos h4, if_neg (by omega), if_neg (by omega), if_pos h4]
  exact ⟨rfl, rfl, rfl, rfl⟩
theorem sim2 {C : Ab} {kl : List Int} (x : Act) (h4 : x.k % 8 < 4) (h0 : 0 ≤ x.k % 8) (hd : C.down = false) (hc : C.armed = 0) : (doA (arm2 C 1 kl) x).1 = 8 ∧ (doA (arm2 C 1 kl) x).2.F = (crashA (if x.k % 8 < 2 then (doA C x).2 else C) kl).F ∧ (doA (arm2 C 1 kl) x).2.down = true := by
  rw [kinds x _ h4, kinds x _ h4]
  by_cases h2 : x.k % 8 = 2
  · rw [if_pos h2, if_neg (by omega)]
    exact sync_last hd _
  · by_cases h3 : x.k % 8 = 3
    · rw [if_neg h2, if_pos h3, if_neg (by omega)]
      exact trunc_last hd _ _
    · rw [if_neg h2, if_neg h3, if_neg h2, if_neg h3, if_pos (by omega)]
      exact write_last hd hc _ _ _
theorem sim3 {A : Ab} (x : Act) (h4 : x.k % 8 ≤ 4) (hd : A.down = true) : (doA A x).2.F = A.F ∧ (doA A x).2.down = true ∧ (x.k % 8 < 4 → (doA A x).1 = 8) := by
  by_cases h : x.k % 8 < 4
  · rw [kinds x _ h, sync_down hd, trunc_down hd, write_down hd]
    repeat' split
    all_goals exact ⟨rfl, hd, fun _ => rfl⟩
  · have : x.k % 8 = 4 := by omega
    unfold doA
    rw [if_neg (by omega), if_neg (by omega), if_pos this]
    exact ⟨rfl, hd, fun h' => absurd h' h⟩
set_option maxHeartbeats 2000000 in
theorem armHead_ok {N : Nat} {v2 y : Value} {l : List Act} {kl : List Int} {i : Nat} {n cnt : Int} {M : List Value → World → Prop} {va : Option Addr} {vc : Nat} (D : Two N w b A h b' C h') (hr : ActRow N w (.slice va l.length vc) l) (hlt : i < l.length) (hf : FewL l) (hk : RowN intC N w v2 kl) (hkl : kl.length ≤ 60) (hR : Rel6 n cnt kl A C) (hc : 0 ≤ cnt ∧ cnt ≤ (i : Int)) (k0 : K (.bool true) w)
    (k : ∀ w' (u1 : Value) (cnt' q : Int) A C h h', Two N w' b A h b' C h' → Rel6 n cnt' kl A C → (0 ≤ cnt' ∧ cnt' ≤ (i : Int) + 1) → Below N w w' → M [.int .i64 q, y, .int .i64 cnt', u1] w') : armHead (.slice va l.length vc) (.int .i64 n) v2 (dkP b) (dkP b') (.bool true) (.int .i64 cnt) (.int .i64 (i : Int)) y M K w := by
  unfold armHead
  obtain ⟨b0, o, vk, rfl, hcs, hix, hld, c0⟩ := acts_at hr hlt rfl
  have hfx := hf.2 l[i] (List.getElem_mem hlt)
  have hfl := hf.1
  obtain ⟨q, hq⟩ : ∃ q, q = l[i].k % 8 := ⟨_, rfl⟩
  have hq0 : 0 ≤ q ∧ q < 8 := by omega
  repeat (any_goals (first
  | (with_reducible refine pureM_in ?_)
  | (with_reducible refine pureQ_in ?_) | (with_reducible refine gdQ_conv (fun _ => ?_)) | (with_reducible refine pickQT ?_) | (with_reducible refine pickQF ?_) | (with_reducible refine pickQ_pos (by first | assumption | omega) ?_) | (with_reducible refine pickQ_neg (by first | assumption | omega) ?_) | (with_reducible refine pickQn_pos (by first | assumption | omega) ?_) | (with_reducible refine pickQn_neg (by first | assumption | omega) ?_) | ((with_reducible refine oQ_one ?_ ?_); exact ⟨_, rfl⟩) | (with_reducible refine And.intro (Eq.refl (α := World) _) ?_) | (with_reducible refine forall_one ?_) | (with_reducible refine oQ_nil ?_) | (with_reducible refine oQ_of ⟨_, rfl⟩ (fun W0 hW0 => by (refine oM_gen (fun Kv hK => ?_)); simp [go_sem]; (first | exact hK _ _ ⟨rfl, rfl⟩ | exact ⟨by omega, hK _ _ ⟨rfl, rfl⟩⟩)) ?_)
  | (with_reducible refine gdtT ?_) | (with_reducible refine gdtF ?_) | (with_reducible refine gdfF ?_) | (with_reducible refine gdfT ?_) | (with_reducible refine gdu ?_ _)
  | (with_reducible refine gdt_pos (by first | assumption | omega) ?_) | (with_reducible refine gdt_neg (by first | assumption | omega) ?_) | (with_reducible refine gdt_split (fun hg => ?_) (fun hg => ?_))
  | (with_reducible refine gdf_pos (by first | assumption | omega) ?_) | (with_reducible refine gdf_neg (by first | assumption | omega) ?_) | (with_reducible refine gdf_split (fun hg => ?_) (fun hg => ?_))
  | (with_reducible refine gdtn_pos (by first | assumption | omega) ?_) | (with_reducible refine gdtn_neg (by first | assumption | omega) ?_) | (with_reducible refine gdtn_split (fun hg => ?_) (fun hg => ?_))
  | (with_reducible refine gdfn_pos (by first | assumption | omega) ?_) | (with_reducible refine gdfn_neg (by first | assumption | omega) ?_) | (with_reducible refine gdfn_split (fun hg => ?_) (fun hg => ?_))
  | (with_reducible refine gdtbn_pos (by assumption) ?_) | (with_reducible refine gdtbn_neg (by assumption) ?_) | (with_reducible refine gdfbn_pos (by assumption) ?_) | (with_reducible refine gdfbn_neg (by assumption) ?_)
  | (with_reducible refine gdtb_pos (by assumption) ?_) | (with_reducible refine gdtb_neg (by assumption) ?_) | (with_reducible refine gdtb_split (fun hg => ?_) (fun hg => ?_))
  | (with_reducible refine gdfb_pos (by assumption) ?_) | (with_reducible refine gdfb_neg (by assumption) ?_) | (with_reducible refine gdfb_split (fun hg => ?_) (fun hg => ?_))
  | (with_reducible refine pickT ?_) | (with_reducible refine pickF ?_)
  | (with_reducible refine pick_pos (by first | assumption | omega) ?_) | (with_reducible refine pick_neg (by first | assumption | omega) ?_)
  | (with_reducible refine pickn_pos (by first | assumption | omega) ?_) | (with_reducible refine pickn_neg (by first | assumption | omega) ?_)
  | (with_reducible refine pickbn_pos (by assumption) ?_) | (with_reducible refine pickbn_neg (by assumption) ?_)
  | (with_reducible refine pickb_pos (by assumption) ?_) | (with_reducible refine pickb_neg (by assumption) ?_)
  | (with_reducible refine condT ?_) | (with_reducible refine condF ?_)
  | (with_reducible refine cond_pos (by first | assumption | omega) ?_) | (with_reducible refine cond_neg (by first | assumption | omega) ?_) | (with_reducible refine condM_dec (fun hg => ?_) (fun hg => ?_))
  | (with_reducible refine condn_pos (by first | assumption | omega) ?_) | (with_reducible refine condn_neg (by first | assumption | omega) ?_) | (with_reducible refine condM_ndec (fun hg => ?_) (fun hg => ?_))
  | (with_reducible refine condbn_pos (by assumption) ?_) | (with_reducible refine condbn_neg (by assumption) ?_) | (with_reducible refine condbn_split (fun hg => ?_) (fun hg => ?_))
  | (with_reducible refine condb_pos (by assumption) ?_) | (with_reducible refine condb_neg (by assumption) ?_) | (with_reducible refine condM_b (fun hg => ?_) (fun hg => ?_))
  | ((with_reducible refine oM_gen (fun Kv hK => ?_)); simp [go_sem, hix, c0, ← hq]; (try simp (disch := omega) only [wrapI64, wrapU8, wrapU32, wrapU64]); (first | refine hK _ _ ?_ | refine And.intro (by omega) (hK _ _ ?_)); clear hK; clear Kv)))
  · exact k0
  have hq4 : q ≤ 4 := by omega
  obtain ⟨m, hm⟩ : ∃ m, m = if q < 4 then cnt + 1 else cnt := ⟨_, rfl⟩
  refine ⟨fun l' w' => w' = w ∧ l' = [.int .i64 m], ?_, ?_⟩
  · by_cases hq3 : q < 4
    · rw [if_pos hq3] at hm
      subst hm
      repeat (any_goals (first
      | (with_reducible refine pureM_in ?_)
      | (with_reducible refine pureQ_in ?_) | (with_reducible refine gdQ_conv (fun _ => ?_)) | (with_reducible refine pickQT ?_) | (with_reducible refine pickQF ?_) | (with_reducible refine pickQ_pos (by first | assumption | omega) ?_) | (with_reducible refine pickQ_neg (by first | assumption | omega) ?_) | (with_reducible refine pickQn_pos (by first | assumption | omega) ?_) | (with_reducible refine pickQn_neg (by first | assumption | omega) ?_) | ((with_reducible refine oQ_one ?_ ?_); exact ⟨_, rfl⟩) | (with_reducible refine And.intro (Eq.refl (α := World) _) ?_) | (with_reducible refine forall_one ?_) | (with_reducible refine oQ_nil ?_) | (with_reducible refine oQ_of ⟨_, rfl⟩ (fun W0 hW0 => by (refine oM_gen (fun Kv hK => ?_)); simp [go_sem]; (first | exact hK _ _ ⟨rfl, rfl⟩ | exact ⟨by omega, hK _ _ ⟨rfl, rfl⟩⟩)) ?_)
      | (with_reducible refine gdtT ?_) | (with_reducible refine gdtF ?_) | (with_reducible refine gdfF ?_) | (with_reducible refine gdfT ?_) | (with_reducible refine gdu ?_ _)
      | (with_reducible refine gdt_pos (by first | assumption | omega) ?_) | (with_reducible refine gdt_neg (by first | assumption | omega) ?_) | (with_reducible refine gdt_split (fun hg => ?_) (fun hg => ?_))
      | (with_reducible refine gdf_pos (by first | assumption | omega) ?_) | (with_reducible refine gdf_neg (by first | assumption | omega) ?_) | (with_reducible refine gdf_split (fun hg => ?_) (fun hg => ?_))
      | (with_reducible refine gdtn_pos (by first | assumption | omega) ?_) | (with_reducible refine gdtn_neg (by first | assumption | omega) ?_) | (with_reducible refine gdtn_split (fun hg => ?_) (fun hg => ?_))
      | (with_reducible refine gdfn_pos (by first | assumption | omega) ?_) | (with_reducible refine gdfn_neg (by first | assumption | omega) ?_) | (with_reducible refine gdfn_split (fun hg => ?_) (fun hg => ?_))
      | (with_reducible refine gdtbn_pos (by assumption) ?_) | (with_reducible refine gdtbn_neg (by assumption) ?_) | (with_reducible refine gdfbn_pos (by assumption) ?_) | (with_reducible refine gdfbn_neg (by assumption) ?_)
      | (with_reducible refine gdtb_pos (by assumption) ?_) | (with_reducible refine gdtb_neg (by assumption) ?_) | (with_reducible refine gdtb_split (fun hg => ?_) (fun hg => ?_))
      | (with_reducible refine gdfb_pos (by assumption) ?_) | (with_reducible refine gdfb_neg (by assumption) ?_) | (with_reducible refine gdfb_split (fun hg => ?_) (fun hg => ?_))
      | (with_reducible refine pickT ?_) | (with_reducible refine pickF ?_)
      | (with_reducible refine pick_pos (by first | assumption | omega) ?_) | (with_reducible refine pick_neg (by first | assumption | omega) ?_)
      | (with_reducible refine pickn_pos (by first | assumption | omega) ?_) | (with_reducible refine pickn_neg (by first | assumption | omega) ?_)
      | (with_reducible refine pickbn_pos (by assumption) ?_) | (with_reducible refine pickbn_neg (by assumption) ?_)
      | (with_reducible refine pickb_pos (by assumption) ?_) | (with_reducible refine pickb_neg (by assumption) ?_)
      | (with_reducible refine condT ?_) | (with_reducible refine condF ?_)
      | (with_reducible refine cond_pos (by first | assumption | omega) ?_) | (with_reducible refine cond_neg (by first | assumption | omega) ?_) | (with_reducible refine condM_dec (fun hg => ?_) (fun hg => ?_))
      | (with_reducible refine condn_pos (by first | assumption | omega) ?_) | (with_reducible refine condn_neg (by first | assumption | omega) ?_) | (with_reducible refine condM_ndec (fun hg => ?_) (fun hg => ?_))
      | (with_reducible refine condbn_pos (by assumption) ?_) | (with_reducible refine condbn_neg (by assumption) ?_) | (with_reducible refine condbn_split (fun hg => ?_) (fun hg => ?_))
      | (with_reducible refine condb_pos (by assumption) ?_) | (with_reducible refine condb_neg (by assumption) ?_) | (with_reducible refine condM_b (fun hg => ?_) (fun hg => ?_))
      | ((with_reducible refine oM_gen (fun Kv hK => ?_)); simp [go_sem]; (try simp (disch := omega) only [wrapI64, wrapU8, wrapU32, wrapU64]); (first | refine hK _ _ ?_ | refine And.intro (by omega) (hK _ _ ?_)); clear hK; clear Kv)))
      first | rfl | exact ⟨rfl, rfl⟩
    · rw [if_neg hq3] at hm
      subst hm
      repeat (any_goals (first
      | (with_reducible refine pureM_in ?_)
      | (with_reducible refine pureQ_in ?_) | (with_reducible refine gdQ_conv (fun _ => ?_)) | (with_reducible refine pickQT ?_) | (with_reducible refine pickQF ?_) | (with_reducible refine pickQ_pos (by first | assumption | omega) ?_) | (with_reducible refine pickQ_neg (by first | assumption | omega) ?_) | (with_reducible refine pickQn_pos (by first | assumption | omega) ?_) | (with_reducible refine pickQn_neg (by first | assumption | omega) ?_) | ((with_reducible refine oQ_one ?_ ?_); exact ⟨_, rfl⟩) | (with_reducible refine And.intro (Eq.refl (α := World) _) ?_) | (with_reducible refine forall_one ?_) | (with_reducible refine oQ_nil ?_) | (with_reducible refine oQ_of ⟨_, rfl⟩ (fun W0 hW0 => by (refine oM_gen (fun Kv hK => ?_)); simp [go_sem]; (first | exact hK _ _ ⟨rfl, rfl⟩ | exact ⟨by omega, hK _ _ ⟨rfl, rfl⟩⟩)) ?_)
      | (with_reducible refine gdtT ?_) | (with_reducible refine gdtF ?_) | (with_reducible refine gdfF ?_) | (with_reducible refine gdfT ?_) | (with_reducible refine gdu ?_ _)
      | (with_reducible refine gdt_pos (by first | assumption | omega) ?_) | (with_reducible refine gdt_neg (by first | assumption | omega) ?_) | (with_reducible refine gdt_split (fun hg => ?_) (fun hg => ?_))
      | (with_reducible refine gdf_pos (by first | assumption | omega) ?_) | (with_reducible refine gdf_neg (by first | assumption | omega) ?_) | (with_reducible refine gdf_split (fun hg => ?_) (fun hg => ?_))
      | (with_reducible refine gdtn_pos (by first | assumption | omega) ?_) | (with_reducible refine gdtn_neg (by first | assumption | omega) ?_) | (with_reducible refine gdtn_split (fun hg => ?_) (fun hg => ?_))
      | (with_reducible refine gdfn_pos (by first | assumption | omega) ?_) | (with_reducible refine gdfn_neg (by first | assumption | omega) ?_) | (with_reducible refine gdfn_split (fun hg => ?_) (fun hg => ?_))
      | (with_reducible refine gdtbn_pos (by assumption) ?_) | (with_reducible refine gdtbn_neg (by assumption) ?_) | (with_reducible refine gdfbn_pos (by assumption) ?_) | (with_reducible refine gdfbn_neg (by assumption) ?_)
      | (with_reducible refine gdtb_pos (by assumption) ?_) | (with_reducible refine gdtb_neg (by assumption) ?_) | (with_reducible refine gdtb_split (fun hg => ?_) (fun hg => ?_))
      | (with_reducible refine gdfb_pos (by assumption) ?_) | (with_reducible refine gdfb_neg (by assumption) ?_) | (with_reducible refine gdfb_split (fun hg => ?_) (fun hg => ?_))
      | (with_reducible refine pickT ?_) | (with_reducible refine pickF ?_)
      | (with_reducible refine pick_pos (by first | assumption | omega) ?_) | (with_reducible refine pick_neg (by first | assumption | omega) ?_)
      | (with_reducible refine pickn_pos (by first | assumption | omega) ?_) | (with_reducible refine pickn_neg (by first | assumption | omega) ?_)
      | (with_reducible refine pickbn_pos (by assumption) ?_) | (with_reducible refine pickbn_neg (by assumption) ?_)
      | (with_reducible refine pickb_pos (by assumption) ?_) | (with_reducible refine pickb_neg (by assumption) ?_)
      | (with_reducible refine condT ?_) | (with_reducible refine condF ?_)
      | (with_reducible refine cond_pos (by first | assumption | omega) ?_) | (with_reducible refine cond_neg (by first | assumption | omega) ?_) | (with_reducible refine condM_dec (fun hg => ?_) (fun hg => ?_))
      | (with_reducible refine condn_pos (by first | assumption | omega) ?_) | (with_reducible refine condn_neg (by first | assumption | omega) ?_) | (with_reducible refine condM_ndec (fun hg => ?_) (fun hg => ?_))
      | (with_reducible refine condbn_pos (by assumption) ?_) | (with_reducible refine condbn_neg (by assumption) ?_) | (with_reducible refine condbn_split (fun hg => ?_) (fun hg => ?_))
      | (with_reducible refine condb_pos (by assumption) ?_) | (with_reducible refine condb_neg (by assumption) ?_) | (with_reducible refine condM_b (fun hg => ?_) (fun hg => ?_))
      | ((with_reducible refine oM_gen (fun Kv hK => ?_)); simp [go_sem]; (try simp (disch := omega) only [wrapI64, wrapU8, wrapU32, wrapU64]); (first | refine hK _ _ ?_ | refine And.intro (by omega) (hK _ _ ?_)); clear hK; clear Kv)))
      first | rfl | exact ⟨rfl, rfl⟩
  rintro l' u w6 ⟨rfl, rfl⟩
  simp only [List.getD_cons_zero, List.getD_cons_succ]
  repeat (any_goals (first
  | (with_reducible refine pureM_in ?_)
  | (with_reducible refine pureQ_in ?_) | (with_reducible refine gdQ_conv (fun _ => ?_)) | (with_reducible refine pickQT ?_) | (with_reducible refine pickQF ?_) | (with_reducible refine pickQ_pos (by first | assumption | omega) ?_) | (with_reducible refine pickQ_neg (by first | assumption | omega) ?_) | (with_reducible refine pickQn_pos (by first | assumption | omega) ?_) | (with_reducible refine pickQn_neg (by first | assumption | omega) ?_) | ((with_reducible refine oQ_one ?_ ?_); exact ⟨_, rfl⟩) | (with_reducible refine And.intro (Eq.refl (α := World) _) ?_) | (with_reducible refine forall_one ?_) | (with_reducible refine oQ_nil ?_) | (with_reducible refine oQ_of ⟨_, rfl⟩ (fun W0 hW0 => by (refine oM_gen (fun Kv hK => ?_)); simp [go_sem]; (first | exact hK _ _ ⟨rfl, rfl⟩ | exact ⟨by omega, hK _ _ ⟨rfl, rfl⟩⟩)) ?_)
  | (rw [oM_load, hld, rM_ok]) | (with_reducible refine do_ok D.one D.o1 hcs hfx.1 hfx.2 ?_)
  | (with_reducible refine gdtT ?_) | (with_reducible refine gdtF ?_) | (with_reducible refine gdfF ?_) | (with_reducible refine gdfT ?_) | (with_reducible refine gdu ?_ _)
  | (with_reducible refine gdt_pos (by first | assumption | omega) ?_) | (with_reducible refine gdt_neg (by first | assumption | omega) ?_) | (with_reducible refine gdt_split (fun hg => ?_) (fun hg => ?_))
  | (with_reducible refine gdf_pos (by first | assumption | omega) ?_) | (with_reducible refine gdf_neg (by first | assumption | omega) ?_) | (with_reducible refine gdf_split (fun hg => ?_) (fun hg => ?_))
  | (with_reducible refine gdtn_pos (by first | assumption | omega) ?_) | (with_reducible refine gdtn_neg (by first | assumption | omega) ?_) | (with_reducible refine gdtn_split (fun hg => ?_) (fun hg => ?_))
  | (with_reducible refine gdfn_pos (by first | assumption | omega) ?_) | (with_reducible refine gdfn_neg (by first | assumption | omega) ?_) | (with_reducible refine gdfn_split (fun hg => ?_) (fun hg => ?_))
  | (with_reducible refine gdtbn_pos (by assumption) ?_) | (with_reducible refine gdtbn_neg (by assumption) ?_) | (with_reducible refine gdfbn_pos (by assumption) ?_) | (with_reducible refine gdfbn_neg (by assumption) ?_)
  | (with_reducible refine gdtb_pos (by assumption) ?_) | (with_reducible refine gdtb_neg (by assumption) ?_) | (with_reducible refine gdtb_split (fun hg => ?_) (fun hg => ?_))
  | (with_reducible refine gdfb_pos (by assumption) ?_) | (with_reducible refine gdfb_neg (by assumption) ?_) | (with_reducible refine gdfb_split (fun hg => ?_) (fun hg => ?_))
  | (with_reducible refine pickT ?_) | (with_reducible refine pickF ?_)
  | (with_reducible refine pick_pos (by first | assumption | omega) ?_) | (with_reducible refine pick_neg (by first | assumption | omega) ?_)
  | (with_reducible refine pickn_pos (by first | assumption | omega) ?_) | (with_reducible refine pickn_neg (by first | assumption | omega) ?_)
  | (with_reducible refine pickbn_pos (by assumption) ?_) | (with_reducible refine pickbn_neg (by assumption) ?_)
  | (with_reducible refine pickb_pos (by assumption) ?_) | (with_reducible refine pickb_neg (by assumption) ?_)
  | (with_reducible refine condT ?_) | (with_reducible refine condF ?_)
  | (with_reducible refine cond_pos (by first | assumption | omega) ?_) | (with_reducible refine cond_neg (by first | assumption | omega) ?_) | (with_reducible refine condM_dec (fun hg => ?_) (fun hg => ?_))
  | (with_reducible refine condn_pos (by first | assumption | omega) ?_) | (with_reducible refine condn_neg (by first | assumption | omega) ?_) | (with_reducible refine condM_ndec (fun hg => ?_) (fun hg => ?_))
  | (with_reducible refine condbn_pos (by assumption) ?_) | (with_reducible refine condbn_neg (by assumption) ?_) | (with_reducible refine condbn_split (fun hg => ?_) (fun hg => ?_))
  | (with_reducible refine condb_pos (by assumption) ?_) | (with_reducible refine condb_neg (by assumption) ?_) | (with_reducible refine condM_b (fun hg => ?_) (fun hg => ?_))
  | ((with_reducible refine oM_gen (fun Kv hK => ?_)); simp [go_sem, hix]; (try simp (disch := omega) only [wrapI64, wrapU8, wrapU32, wrapU64]); (first | refine hK _ _ ?_ | refine And.intro (by omega) (hK _ _ ?_)); clear hK; clear Kv)))
  intro w7 h7 d7 t7
  have hz := D.le
  have b7 := t7.below D.o1 D.le
  replace D := D.left d7 t7
  have hm0 : 0 ≤ m ∧ m ≤ (i : Int) + 1 := by rw [hm]; split <;> omega
  have hr7 := hr.below b7
  have hk7 := hk.below b7
  rcases hR with ⟨g1, rfl, g3, g4⟩ | ⟨g1, g2, g3, g4⟩
  · by_cases hq3 : q < 4
    · rw [if_pos hq3] at hm
      by_cases hmn : m < n
      · have hs := sim1 (kl := kl) (a := n - cnt) l[i] (by omega) g4 g3 (by omega)
        refine armT1 (M := M) D hr7 hlt hf hmn hs.1 (fun w8 h8 D8 b8 => k _ _ _ _ _ _ _ _ D8 (.inl ⟨hmn, ?_, hs.2.2.1, hs.2.2.2⟩) hm0 (b7.trans b8))
        rw [hs.2.1, hm]
        congr 1
        omega
      · have e1 : n - cnt = 1 := by omega
        have hmn2 : m = n := by omega
        rw [e1] at D ⊢
        have hs := sim2 (kl := kl) l[i] (by omega) (by omega) g4 g3
        rw [hs.1]
        subst hmn2
        refine armT2 (M := M) D hr7 hlt hf hk7 hkl hq3 hs.2.2 (fun w8 h8 D8 b8 => k _ _ _ _ _ _ _ _ D8 (.inr ⟨by omega, ?_, hs.2.2, crashA_down _ _⟩) hm0 (b7.trans b8))
        rw [hs.2.1, ← hq]
    · rw [if_neg hq3] at hm
      have hs := sim4 (kl := kl) (a := n - cnt) (C := C) l[i] (by omega)
      refine armT1 (M := M) D hr7 hlt hf (by omega) hs.1 (fun w8 h8 D8 b8 => k _ _ _ _ _ _ _ _ D8 (.inl ⟨by omega, ?_, by rw [hs.2.2.1]; exact g3, by rw [hs.2.2.2]; exact g4⟩) hm0 (b7.trans b8))
      rw [hs.2.1, hm]
  · have hs := sim3 (A := A) l[i] (by omega) g3
    refine armT3 (M := M) D (by rw [hm]; split <;> omega) (fun e => by
      by_cases hq3 : q < 4
      · rw [if_pos hq3] at hm; omega
      · omega) hs.2.1 (fun hq3 => hs.2.2 (by omega)) (k _ _ _ _ _ _ _ _ D (.inr ⟨by rw [hm]; split <;> omega, by rw [hs.1]; exact g2, hs.2.1, g4⟩) hm0 b7)
set_option maxHeartbeats 2000000 in
theorem law6_ok {n : Int} {v v2 : Value} {l : List Act} {kl : List Int} (hr : ActRow w.heap.size w v l) (hr2 : RowN intC w.heap.size w v2 kl) (hkr : ∀ y ∈ kl, InR y) (k : ∀ w', Below w.heap.size w w' → K (.bool true) w') : callM Try.prog 6 #[v, .int .i64 n, v2] K w := by
  apply sh_6_ok
  unfold sh_6
  obtain ⟨N, hN⟩ : ∃ N, N = w.heap.size := ⟨_, rfl⟩
  rw [← hN] at hr hr2 k
  refine sane_ok (fun w1 b1 => ?_)
  rw [← hN] at b1
  refine few_ok (hr.below b1) (fun t1 ht1 => ?_)
  obtain ⟨va2, vc2, hv2, hz2, hrr2⟩ := hr2
  have hr2' : RowN intC N w v2 kl := ⟨va2, vc2, hv2, hz2, hrr2⟩
  rw [hv2] at hr2' ⊢
  cases t1 with
  | false =>
    repeat (any_goals (first
    | (with_reducible refine pureM_in ?_)
    | (with_reducible refine pureQ_in ?_) | (with_reducible refine gdQ_conv (fun _ => ?_)) | (with_reducible refine pickQT ?_) | (with_reducible refine pickQF ?_) | (with_reducible refine pickQ_pos (by first | assumption | omega) ?_) | (with_reducible refine pickQ_neg (by first | assumption | omega) ?_) | (with_reducible refine pickQn_pos (by first | assumption | omega) ?_) | (with_reducible refine pickQn_neg (by first | assumption | omega) ?_) | ((with_reducible refine oQ_one ?_ ?_); exact ⟨_, rfl⟩) | (with_reducible refine And.intro (Eq.refl (α := World) _) ?_) | (with_reducible refine forall_one ?_) | (with_reducible refine oQ_nil ?_) | (with_reducible refine oQ_of ⟨_, rfl⟩ (fun W0 hW0 => by (refine oM_gen (fun Kv hK => ?_)); simp [go_sem]; (first | exact hK _ _ ⟨rfl, rfl⟩ | exact ⟨by omega, hK _ _ ⟨rfl, rfl⟩⟩)) ?_)
    | (with_reducible refine gdtT ?_) | (with_reducible refine gdtF ?_) | (with_reducible refine gdfF ?_) | (with_reducible refine gdfT ?_) | (with_reducible refine gdu ?_ _)
    | (with_reducible refine gdt_pos (by first | assumption | omega) ?_) | (with_reducible refine gdt_neg (by first | assumption | omega) ?_) | (with_reducible refine gdt_split (fun hg => ?_) (fun hg => ?_))
    | (with_reducible refine gdf_pos (by first | assumption | omega) ?_) | (with_reducible refine gdf_neg (by first | assumption | omega) ?_) | (with_reducible refine gdf_split (fun hg => ?_) (fun hg => ?_))
    | (with_reducible refine gdtn_pos (by first | assumption | omega) ?_) | (with_reducible refine gdtn_neg (by first | assumption | omega) ?_) | (with_reducible refine gdtn_split (fun hg => ?_) (fun hg => ?_))
    | (with_reducible refine gdfn_pos (by first | assumption | omega) ?_) | (with_reducible refine gdfn_neg (by first | assumption | omega) ?_) | (with_reducible refine gdfn_split (fun hg => ?_) (fun hg => ?_))
    | (with_reducible refine gdtbn_pos (by assumption) ?_) | (with_reducible refine gdtbn_neg (by assumption) ?_) | (with_reducible refine gdfbn_pos (by assumption) ?_) | (with_reducible refine gdfbn_neg (by assumption) ?_)
    | (with_reducible refine gdtb_pos (by assumption) ?_) | (with_reducible refine gdtb_neg (by assumption) ?_) | (with_reducible refine gdtb_split (fun hg => ?_) (fun hg => ?_))
    | (with_reducible refine gdfb_pos (by assumption) ?_) | (with_reducible refine gdfb_neg (by assumption) ?_) | (with_reducible refine gdfb_split (fun hg => ?_) (fun hg => ?_))
    | (with_reducible refine pickT ?_) | (with_reducible refine pickF ?_)
    | (with_reducible refine pick_pos (by first | assumption | omega) ?_) | (with_reducible refine pick_neg (by first | assumption | omega) ?_)
    | (with_reducible refine pickn_pos (by first | assumption | omega) ?_) | (with_reducible refine pickn_neg (by first | assumption | omega) ?_)
    | (with_reducible refine pickbn_pos (by assumption) ?_) | (with_reducible refine pickbn_neg (by assumption) ?_)
    | (with_reducible refine pickb_pos (by assumption) ?_) | (with_reducible refine pickb_neg (by assumption) ?_)
    | (with_reducible refine condT ?_) | (with_reducible refine condF ?_)
    | (with_reducible refine cond_pos (by first | assumption | omega) ?_) | (with_reducible refine cond_neg (by first | assumption | omega) ?_) | (with_reducible refine condM_dec (fun hg => ?_) (fun hg => ?_))
    | (with_reducible refine condn_pos (by first | assumption | omega) ?_) | (with_reducible refine condn_neg (by first | assumption | omega) ?_) | (with_reducible refine condM_ndec (fun hg => ?_) (fun hg => ?_))
    | (with_reducible refine condbn_pos (by assumption) ?_) | (with_reducible refine condbn_neg (by assumption) ?_) | (with_reducible refine condbn_split (fun hg => ?_) (fun hg => ?_))
    | (with_reducible refine condb_pos (by assumption) ?_) | (with_reducible refine condb_neg (by assumption) ?_) | (with_reducible refine condM_b (fun hg => ?_) (fun hg => ?_))
    | ((with_reducible refine oM_gen (fun Kv hK => ?_)); simp [go_sem]; (try simp (disch := omega) only [wrapI64, wrapU8, wrapU32, wrapU64]); (first | refine hK _ _ ?_ | refine And.intro (by omega) (hK _ _ ?_)); clear hK; clear Kv)))
    exact k w1 b1
  | true =>
  have hf := ht1 rfl
  clear ht1 hrr2 hz2
  repeat (any_goals (first
  | (with_reducible refine pureM_in ?_)
  | (with_reducible refine pureQ_in ?_) | (with_reducible refine gdQ_conv (fun _ => ?_)) | (with_reducible refine pickQT ?_) | (with_reducible refine pickQF ?_) | (with_reducible refine pickQ_pos (by first | assumption | omega) ?_) | (with_reducible refine pickQ_neg (by first | assumption | omega) ?_) | (with_reducible refine pickQn_pos (by first | assumption | omega) ?_) | (with_reducible refine pickQn_neg (by first | assumption | omega) ?_) | ((with_reducible refine oQ_one ?_ ?_); exact ⟨_, rfl⟩) | (with_reducible refine And.intro (Eq.refl (α := World) _) ?_) | (with_reducible refine forall_one ?_) | (with_reducible refine oQ_nil ?_) | (with_reducible refine oQ_of ⟨_, rfl⟩ (fun W0 hW0 => by (refine oM_gen (fun Kv hK => ?_)); simp [go_sem]; (first | exact hK _ _ ⟨rfl, rfl⟩ | exact ⟨by omega, hK _ _ ⟨rfl, rfl⟩⟩)) ?_)
  | (with_reducible refine gdtT ?_) | (with_reducible refine gdtF ?_) | (with_reducible refine gdfF ?_) | (with_reducible refine gdfT ?_) | (with_reducible refine gdu ?_ _)
  | (with_reducible refine gdt_pos (by first | assumption | omega) ?_) | (with_reducible refine gdt_neg (by first | assumption | omega) ?_) | (with_reducible refine gdt_split (fun hg => ?_) (fun hg => ?_))
  | (with_reducible refine gdf_pos (by first | assumption | omega) ?_) | (with_reducible refine gdf_neg (by first | assumption | omega) ?_) | (with_reducible refine gdf_split (fun hg => ?_) (fun hg => ?_))
  | (with_reducible refine gdtn_pos (by first | assumption | omega) ?_) | (with_reducible refine gdtn_neg (by first | assumption | omega) ?_) | (with_reducible refine gdtn_split (fun hg => ?_) (fun hg => ?_))
  | (with_reducible refine gdfn_pos (by first | assumption | omega) ?_) | (with_reducible refine gdfn_neg (by first | assumption | omega) ?_) | (with_reducible refine gdfn_split (fun hg => ?_) (fun hg => ?_))
  | (with_reducible refine gdtbn_pos (by assumption) ?_) | (with_reducible refine gdtbn_neg (by assumption) ?_) | (with_reducible refine gdfbn_pos (by assumption) ?_) | (with_reducible refine gdfbn_neg (by assumption) ?_)
  | (with_reducible refine gdtb_pos (by assumption) ?_) | (with_reducible refine gdtb_neg (by assumption) ?_) | (with_reducible refine gdtb_split (fun hg => ?_) (fun hg => ?_))
  | (with_reducible refine gdfb_pos (by assumption) ?_) | (with_reducible refine gdfb_neg (by assumption) ?_) | (with_reducible refine gdfb_split (fun hg => ?_) (fun hg => ?_))
  | (with_reducible refine pickT ?_) | (with_reducible refine pickF ?_)
  | (with_reducible refine pick_pos (by first | assumption | omega) ?_) | (with_reducible refine pick_neg (by first | assumption | omega) ?_)
  | (with_reducible refine pickn_pos (by first | assumption | omega) ?_) | (with_reducible refine pickn_neg (by first | assumption | omega) ?_)
  | (with_reducible refine pickbn_pos (by assumption) ?_) | (with_reducible refine pickbn_neg (by assumption) ?_)
  | (with_reducible refine pickb_pos (by assumption) ?_) | (with_reducible refine pickb_neg (by assumption) ?_)
  | (with_reducible refine condT ?_) | (with_reducible refine condF ?_)
  | (with_reducible refine cond_pos (by first | assumption | omega) ?_) | (with_reducible refine cond_neg (by first | assumption | omega) ?_) | (with_reducible refine condM_dec (fun hg => ?_) (fun hg => ?_))
  | (with_reducible refine condn_pos (by first | assumption | omega) ?_) | (with_reducible refine condn_neg (by first | assumption | omega) ?_) | (with_reducible refine condM_ndec (fun hg => ?_) (fun hg => ?_))
  | (with_reducible refine condbn_pos (by assumption) ?_) | (with_reducible refine condbn_neg (by assumption) ?_) | (with_reducible refine condbn_split (fun hg => ?_) (fun hg => ?_))
  | (with_reducible refine condb_pos (by assumption) ?_) | (with_reducible refine condb_neg (by assumption) ?_) | (with_reducible refine condM_b (fun hg => ?_) (fun hg => ?_))
  | ((with_reducible refine oM_gen (fun Kv hK => ?_)); simp [go_sem]; (try simp (disch := omega) only [wrapI64, wrapU8, wrapU32, wrapU64]); (first | refine hK _ _ ?_ | refine And.intro (by omega) (hK _ _ ?_)); clear hK; clear Kv)))
  · exact k w1 b1
  · exact k w1 b1
  · exact k w1 b1
  have hkl : kl.length ≤ 60 := by omega
  have hn1 : 1 ≤ n := by omega
  have hn60 : n ≤ 60 := by omega
  refine new_ok (fun w2 b h d f2 ho _ => ?_)
  have hz1 : N ≤ w1.heap.size := by have := b1.size; omega
  have b2 := b1.trans ((below_none f2).mono hz1)
  refine new_ok (fun w3 b' h' d' f3 ho' hrd' => ?_)
  have hz2 : N ≤ w2.heap.size := by have := b2.size; omega
  have b3 := b2.trans ((below_none f3).mono hz2)
  have D := two_new (n := N) d (fun i hi => by have := ho i hi; omega) d' f3 ho' hrd'
  clear d d' ho ho' hrd' f2 f3 b1 b2
  repeat (any_goals (first
  | (with_reducible refine pureM_in ?_)
  | (with_reducible refine pureQ_in ?_) | (with_reducible refine gdQ_conv (fun _ => ?_)) | (with_reducible refine pickQT ?_) | (with_reducible refine pickQF ?_) | (with_reducible refine pickQ_pos (by first | assumption | omega) ?_) | (with_reducible refine pickQ_neg (by first | assumption | omega) ?_) | (with_reducible refine pickQn_pos (by first | assumption | omega) ?_) | (with_reducible refine pickQn_neg (by first | assumption | omega) ?_) | ((with_reducible refine oQ_one ?_ ?_); exact ⟨_, rfl⟩) | (with_reducible refine And.intro (Eq.refl (α := World) _) ?_) | (with_reducible refine forall_one ?_) | (with_reducible refine oQ_nil ?_) | (with_reducible refine oQ_of ⟨_, rfl⟩ (fun W0 hW0 => by (refine oM_gen (fun Kv hK => ?_)); simp [go_sem]; (first | exact hK _ _ ⟨rfl, rfl⟩ | exact ⟨by omega, hK _ _ ⟨rfl, rfl⟩⟩)) ?_)
  | (with_reducible refine gdtT ?_) | (with_reducible refine gdtF ?_) | (with_reducible refine gdfF ?_) | (with_reducible refine gdfT ?_) | (with_reducible refine gdu ?_ _)
  | (with_reducible refine gdt_pos (by first | assumption | omega) ?_) | (with_reducible refine gdt_neg (by first | assumption | omega) ?_) | (with_reducible refine gdt_split (fun hg => ?_) (fun hg => ?_))
  | (with_reducible refine gdf_pos (by first | assumption | omega) ?_) | (with_reducible refine gdf_neg (by first | assumption | omega) ?_) | (with_reducible refine gdf_split (fun hg => ?_) (fun hg => ?_))
  | (with_reducible refine gdtn_pos (by first | assumption | omega) ?_) | (with_reducible refine gdtn_neg (by first | assumption | omega) ?_) | (with_reducible refine gdtn_split (fun hg => ?_) (fun hg => ?_))
  | (with_reducible refine gdfn_pos (by first | assumption | omega) ?_) | (with_reducible refine gdfn_neg (by first | assumption | omega) ?_) | (with_reducible refine gdfn_split (fun hg => ?_) (fun hg => ?_))
  | (with_reducible refine gdtbn_pos (by assumption) ?_) | (with_reducible refine gdtbn_neg (by assumption) ?_) | (with_reducible refine gdfbn_pos (by assumption) ?_) | (with_reducible refine gdfbn_neg (by assumption) ?_)
  | (with_reducible refine gdtb_pos (by assumption) ?_) | (with_reducible refine gdtb_neg (by assumption) ?_) | (with_reducible refine gdtb_split (fun hg => ?_) (fun hg => ?_))
  | (with_reducible refine gdfb_pos (by assumption) ?_) | (with_reducible refine gdfb_neg (by assumption) ?_) | (with_reducible refine gdfb_split (fun hg => ?_) (fun hg => ?_))
  | (with_reducible refine pickT ?_) | (with_reducible refine pickF ?_)
  | (with_reducible refine pick_pos (by first | assumption | omega) ?_) | (with_reducible refine pick_neg (by first | assumption | omega) ?_)
  | (with_reducible refine pickn_pos (by first | assumption | omega) ?_) | (with_reducible refine pickn_neg (by first | assumption | omega) ?_)
  | (with_reducible refine pickbn_pos (by assumption) ?_) | (with_reducible refine pickbn_neg (by assumption) ?_)
  | (with_reducible refine pickb_pos (by assumption) ?_) | (with_reducible refine pickb_neg (by assumption) ?_)
  | (with_reducible refine condT ?_) | (with_reducible refine condF ?_)
  | (with_reducible refine cond_pos (by first | assumption | omega) ?_) | (with_reducible refine cond_neg (by first | assumption | omega) ?_) | (with_reducible refine condM_dec (fun hg => ?_) (fun hg => ?_))
  | (with_reducible refine condn_pos (by first | assumption | omega) ?_) | (with_reducible refine condn_neg (by first | assumption | omega) ?_) | (with_reducible refine condM_ndec (fun hg => ?_) (fun hg => ?_))
  | (with_reducible refine condbn_pos (by assumption) ?_) | (with_reducible refine condbn_neg (by assumption) ?_) | (with_reducible refine condbn_split (fun hg => ?_) (fun hg => ?_))
  | (with_reducible refine condb_pos (by assumption) ?_) | (with_reducible refine condb_neg (by assumption) ?_) | (with_reducible refine condM_b (fun hg => ?_) (fun hg => ?_))
  | ((with_reducible refine oM_gen (fun Kv hK => ?_)); simp [go_sem, oM_eqc, eqGuard]; (try simp (disch := omega) only [wrapI64, wrapU8, wrapU32, wrapU64]); (first | refine hK _ _ ?_ | refine And.intro (by omega) (hK _ _ ?_)); clear hK; clear Kv)))
  refine arm_ok D.one n (by omega) ((hr2'.below b3).row D.le) (by omega) hkr (fun w4 h4 d4 t4 => ?_)
  have b4 := b3.trans (t4.below D.o1 D.le)
  replace D := D.left d4 t4
  have hR0 : Rel6 n 0 kl (armA newA n kl) newA := .inl ⟨by omega, by
    show armA newA n kl = arm2 newA (n - 0) kl
    unfold armA arm2
    rw [Int.sub_zero, Int.max_eq_left (by omega)], rfl, rfl⟩
  obtain ⟨va, vc, hv⟩ := hr.len
  rw [hv] at hr ⊢
  have hfl := hf.1
  refine ⟨fun l' w' => ∃ (u0 u3 : Value) (cnt : Int) (i : Nat), l' = [u0, .bool false, .int .i64 cnt, u3, .int .i64 (i : Int)] ∧ i ≤ l.length ∧ 0 ≤ cnt ∧ cnt ≤ i ∧ ∃ A C h h', Two N w' b A h b' C h' ∧ Rel6 n cnt kl A C ∧ Below N w w', fun l' _ => match l' with | [_, _, _, _, .int _ m] => ((l.length : Int) - m).toNat | _ => 0, ⟨_, _, 0, 0, rfl, by omega, by omega, by omega, _, _, _, _, D, hR0, b4⟩, ?_⟩
  clear hR0 D d4 t4 b3 b4
  rintro l' u w5 ⟨u0, u3, cnt, i, rfl, hi, hc0, hci, A, C, h5, h5', D, hR, b5⟩
  simp only [List.getD_cons_zero, List.getD_cons_succ]
  have hz5 := D.le
  repeat (any_goals (first
  | (with_reducible refine pureM_in ?_)
  | (with_reducible refine pureQ_in ?_) | (with_reducible refine gdQ_conv (fun _ => ?_)) | (with_reducible refine pickQT ?_) | (with_reducible refine pickQF ?_) | (with_reducible refine pickQ_pos (by first | assumption | omega) ?_) | (with_reducible refine pickQ_neg (by first | assumption | omega) ?_) | (with_reducible refine pickQn_pos (by first | assumption | omega) ?_) | (with_reducible refine pickQn_neg (by first | assumption | omega) ?_) | ((with_reducible refine oQ_one ?_ ?_); exact ⟨_, rfl⟩) | (with_reducible refine And.intro (Eq.refl (α := World) _) ?_) | (with_reducible refine forall_one ?_) | (with_reducible refine oQ_nil ?_) | (with_reducible refine oQ_of ⟨_, rfl⟩ (fun W0 hW0 => by (refine oM_gen (fun Kv hK => ?_)); simp [go_sem]; (first | exact hK _ _ ⟨rfl, rfl⟩ | exact ⟨by omega, hK _ _ ⟨rfl, rfl⟩⟩)) ?_)
  | (with_reducible refine gdtT ?_) | (with_reducible refine gdtF ?_) | (with_reducible refine gdfF ?_) | (with_reducible refine gdfT ?_) | (with_reducible refine gdu ?_ _)
  | (with_reducible refine gdt_pos (by first | assumption | omega) ?_) | (with_reducible refine gdt_neg (by first | assumption | omega) ?_) | (with_reducible refine gdt_split (fun hg => ?_) (fun hg => ?_))
  | (with_reducible refine gdf_pos (by first | assumption | omega) ?_) | (with_reducible refine gdf_neg (by first | assumption | omega) ?_) | (with_reducible refine gdf_split (fun hg => ?_) (fun hg => ?_))
  | (with_reducible refine gdtn_pos (by first | assumption | omega) ?_) | (with_reducible refine gdtn_neg (by first | assumption | omega) ?_) | (with_reducible refine gdtn_split (fun hg => ?_) (fun hg => ?_))
  | (with_reducible refine gdfn_pos (by first | assumption | omega) ?_) | (with_reducible refine gdfn_neg (by first | assumption | omega) ?_) | (with_reducible refine gdfn_split (fun hg => ?_) (fun hg => ?_))
  | (with_reducible refine gdtbn_pos (by assumption) ?_) | (with_reducible refine gdtbn_neg (by assumption) ?_) | (with_reducible refine gdfbn_pos (by assumption) ?_) | (with_reducible refine gdfbn_neg (by assumption) ?_)
  | (with_reducible refine gdtb_pos (by assumption) ?_) | (with_reducible refine gdtb_neg (by assumption) ?_) | (with_reducible refine gdtb_split (fun hg => ?_) (fun hg => ?_))
  | (with_reducible refine gdfb_pos (by assumption) ?_) | (with_reducible refine gdfb_neg (by assumption) ?_) | (with_reducible refine gdfb_split (fun hg => ?_) (fun hg => ?_))
  | (with_reducible refine pickT ?_) | (with_reducible refine pickF ?_)
  | (with_reducible refine pick_pos (by first | assumption | omega) ?_) | (with_reducible refine pick_neg (by first | assumption | omega) ?_)
  | (with_reducible refine pickn_pos (by first | assumption | omega) ?_) | (with_reducible refine pickn_neg (by first | assumption | omega) ?_)
  | (with_reducible refine pickbn_pos (by assumption) ?_) | (with_reducible refine pickbn_neg (by assumption) ?_)
  | (with_reducible refine pickb_pos (by assumption) ?_) | (with_reducible refine pickb_neg (by assumption) ?_)
  | (with_reducible refine condT ?_) | (with_reducible refine condF ?_)
  | (with_reducible refine cond_pos (by first | assumption | omega) ?_) | (with_reducible refine cond_neg (by first | assumption | omega) ?_) | (with_reducible refine condM_dec (fun hg => ?_) (fun hg => ?_))
  | (with_reducible refine condn_pos (by first | assumption | omega) ?_) | (with_reducible refine condn_neg (by first | assumption | omega) ?_) | (with_reducible refine condM_ndec (fun hg => ?_) (fun hg => ?_))
  | (with_reducible refine condbn_pos (by assumption) ?_) | (with_reducible refine condbn_neg (by assumption) ?_) | (with_reducible refine condbn_split (fun hg => ?_) (fun hg => ?_))
  | (with_reducible refine condb_pos (by assumption) ?_) | (with_reducible refine condb_neg (by assumption) ?_) | (with_reducible refine condM_b (fun hg => ?_) (fun hg => ?_))
  | ((with_reducible refine oM_gen (fun Kv hK => ?_)); simp [go_sem]; (try simp (disch := omega) only [wrapI64, wrapU8, wrapU32, wrapU64]); (first | refine hK _ _ ?_ | refine And.intro (by omega) (hK _ _ ?_)); clear hK; clear Kv)))
  · have hlt : i < l.length := by omega
    have hr5 := hr.below b5
    refine ⟨fun l' w' => ∃ (u0 u1 : Value) (cnt' : Int), l' = [u0, .bool false, .int .i64 cnt', u1] ∧ 0 ≤ cnt' ∧ cnt' ≤ (i : Int) + 1 ∧ ∃ A C h h', Two N w' b A h b' C h' ∧ Rel6 n cnt' kl A C ∧ Below N w w', ?_, ?_⟩
    · refine armHead_ok (M := fun l' w' => ∃ (u0 u1 : Value) (cnt' : Int), l' = [u0, .bool false, .int .i64 cnt', u1] ∧ 0 ≤ cnt' ∧ cnt' ≤ (i : Int) + 1 ∧ ∃ A C h h', Two N w' b A h b' C h' ∧ Rel6 n cnt' kl A C ∧ Below N w w') D hr5 hlt hf (hr2'.below b5) hkl hR ⟨hc0, hci⟩ (k w5 b5) (fun w' u1 cnt' q' A' C' h1 h1' D' hR' hc' b' => ⟨_, _, cnt', rfl, hc'.1, hc'.2, A', C', h1, h1', D', hR', b5.trans b'⟩)
    · rintro l' u w6 ⟨u0', u1', cnt', rfl, hc0', hci', A6, C6, h6, h6', D6, R6, b6⟩
      simp only [List.getD_cons_zero, List.getD_cons_succ]
      repeat (any_goals (first
      | (with_reducible refine pureM_in ?_)
      | (with_reducible refine pureQ_in ?_) | (with_reducible refine gdQ_conv (fun _ => ?_)) | (with_reducible refine pickQT ?_) | (with_reducible refine pickQF ?_) | (with_reducible refine pickQ_pos (by first | assumption | omega) ?_) | (with_reducible refine pickQ_neg (by first | assumption | omega) ?_) | (with_reducible refine pickQn_pos (by first | assumption | omega) ?_) | (with_reducible refine pickQn_neg (by first | assumption | omega) ?_) | ((with_reducible refine oQ_one ?_ ?_); exact ⟨_, rfl⟩) | (with_reducible refine And.intro (Eq.refl (α := World) _) ?_) | (with_reducible refine forall_one ?_) | (with_reducible refine oQ_nil ?_) | (with_reducible refine oQ_of ⟨_, rfl⟩ (fun W0 hW0 => by (refine oM_gen (fun Kv hK => ?_)); simp [go_sem]; (first | exact hK _ _ ⟨rfl, rfl⟩ | exact ⟨by omega, hK _ _ ⟨rfl, rfl⟩⟩)) ?_)
      | (with_reducible refine gdtT ?_) | (with_reducible refine gdtF ?_) | (with_reducible refine gdfF ?_) | (with_reducible refine gdfT ?_) | (with_reducible refine gdu ?_ _)
      | (with_reducible refine gdt_pos (by first | assumption | omega) ?_) | (with_reducible refine gdt_neg (by first | assumption | omega) ?_) | (with_reducible refine gdt_split (fun hg => ?_) (fun hg => ?_))
      | (with_reducible refine gdf_pos (by first | assumption | omega) ?_) | (with_reducible refine gdf_neg (by first | assumption | omega) ?_) | (with_reducible refine gdf_split (fun hg => ?_) (fun hg => ?_))
      | (with_reducible refine gdtn_pos (by first | assumption | omega) ?_) | (with_reducible refine gdtn_neg (by first | assumption | omega) ?_) | (with_reducible refine gdtn_split (fun hg => ?_) (fun hg => ?_))
      | (with_reducible refine gdfn_pos (by first | assumption | omega) ?_) | (with_reducible refine gdfn_neg (by first | assumption | omega) ?_) | (with_reducible refine gdfn_split (fun hg => ?_) (fun hg => ?_))
      | (with_reducible refine gdtbn_pos (by assumption) ?_) | (with_reducible refine gdtbn_neg (by assumption) ?_) | (with_reducible refine gdfbn_pos (by assumption) ?_) | (with_reducible refine gdfbn_neg (by assumption) ?_)
      | (with_reducible refine gdtb_pos (by assumption) ?_) | (with_reducible refine gdtb_neg (by assumption) ?_) | (with_reducible refine gdtb_split (fun hg => ?_) (fun hg => ?_))
      | (with_reducible refine gdfb_pos (by assumption) ?_) | (with_reducible refine gdfb_neg (by assumption) ?_) | (with_reducible refine gdfb_split (fun hg => ?_) (fun hg => ?_))
      | (with_reducible refine pickT ?_) | (with_reducible refine pickF ?_)
      | (with_reducible refine pick_pos (by first | assumption | omega) ?_) | (with_reducible refine pick_neg (by first | assumption | omega) ?_)
      | (with_reducible refine pickn_pos (by first | assumption | omega) ?_) | (with_reducible refine pickn_neg (by first | assumption | omega) ?_)
      | (with_reducible refine pickbn_pos (by assumption) ?_) | (with_reducible refine pickbn_neg (by assumption) ?_)
      | (with_reducible refine pickb_pos (by assumption) ?_) | (with_reducible refine pickb_neg (by assumption) ?_)
      | (with_reducible refine condT ?_) | (with_reducible refine condF ?_)
      | (with_reducible refine cond_pos (by first | assumption | omega) ?_) | (with_reducible refine cond_neg (by first | assumption | omega) ?_) | (with_reducible refine condM_dec (fun hg => ?_) (fun hg => ?_))
      | (with_reducible refine condn_pos (by first | assumption | omega) ?_) | (with_reducible refine condn_neg (by first | assumption | omega) ?_) | (with_reducible refine condM_ndec (fun hg => ?_) (fun hg => ?_))
      | (with_reducible refine condbn_pos (by assumption) ?_) | (with_reducible refine condbn_neg (by assumption) ?_) | (with_reducible refine condbn_split (fun hg => ?_) (fun hg => ?_))
      | (with_reducible refine condb_pos (by assumption) ?_) | (with_reducible refine condb_neg (by assumption) ?_) | (with_reducible refine condM_b (fun hg => ?_) (fun hg => ?_))
      | ((with_reducible refine oM_gen (fun Kv hK => ?_)); simp [go_sem]; (try simp (disch := omega) only [wrapI64, wrapU8, wrapU32, wrapU64]); (first | refine hK _ _ ?_ | refine And.intro (by omega) (hK _ _ ?_)); clear hK; clear Kv)))
      refine ⟨⟨_, _, cnt', i + 1, rfl, hlt, hc0', hci', A6, C6, h6, h6', D6, R6, b6⟩, ?_⟩
      show ((l.length : Int) - ((i : Int) + 1)).toNat < ((l.length : Int) - (i : Int)).toNat
      omega
  · have hFD : A.F = C.F ∧ A.down = C.down := by
      rcases hR with ⟨_, rfl, _, _⟩ | ⟨_, h1, h2, h3⟩
      · exact ⟨rfl, rfl⟩
      · exact ⟨h1, by rw [h2, h3]⟩
    have hr5 := hr.below b5
    refine same_ok D.one D.two hFD.1 hFD.2 hr5 hf.1 (fun w6 hh6 f6 => ?_)
    have b6 := b5.trans ((below_none f6).mono hz5)
    replace D := D.fresh f6
    refine start_ok D.one (fun w7 d7 t7 => ?_)
    have b7 := b6.trans (t7.below D.o1 D.le)
    replace D := D.left d7 t7
    refine start_ok D.two (fun w8 d8 t8 => ?_)
    have b8 := b7.trans (t8.below D.o2 D.le)
    replace D := D.right d8 t8
    have hr8 := hr.below b8
    have d81 := D.one
    have d82 := D.two
    have hF8 : (startA A).F = (startA C).F := hFD.1
    have hl40 := hf.1
    repeat (any_goals (first
    | (with_reducible refine pureM_in ?_)
    | (with_reducible refine pureQ_in ?_) | (with_reducible refine gdQ_conv (fun _ => ?_)) | (with_reducible refine pickQT ?_) | (with_reducible refine pickQF ?_) | (with_reducible refine pickQ_pos (by first | assumption | omega) ?_) | (with_reducible refine pickQ_neg (by first | assumption | omega) ?_) | (with_reducible refine pickQn_pos (by first | assumption | omega) ?_) | (with_reducible refine pickQn_neg (by first | assumption | omega) ?_) | ((with_reducible refine oQ_one ?_ ?_); exact ⟨_, rfl⟩) | (with_reducible refine And.intro (Eq.refl (α := World) _) ?_) | (with_reducible refine forall_one ?_) | (with_reducible refine oQ_nil ?_) | (with_reducible refine oQ_of ⟨_, rfl⟩ (fun W0 hW0 => by (refine oM_gen (fun Kv hK => ?_)); simp [go_sem]; (first | exact hK _ _ ⟨rfl, rfl⟩ | exact ⟨by omega, hK _ _ ⟨rfl, rfl⟩⟩)) ?_)
    | (with_reducible refine same_ok d81 d82 hF8 rfl hr8 hl40 ?_)
    | (with_reducible refine gdtT ?_) | (with_reducible refine gdtF ?_) | (with_reducible refine gdfF ?_) | (with_reducible refine gdfT ?_) | (with_reducible refine gdu ?_ _)
    | (with_reducible refine gdt_pos (by first | assumption | omega) ?_) | (with_reducible refine gdt_neg (by first | assumption | omega) ?_) | (with_reducible refine gdt_split (fun hg => ?_) (fun hg => ?_))
    | (with_reducible refine gdf_pos (by first | assumption | omega) ?_) | (with_reducible refine gdf_neg (by first | assumption | omega) ?_) | (with_reducible refine gdf_split (fun hg => ?_) (fun hg => ?_))
    | (with_reducible refine gdtn_pos (by first | assumption | omega) ?_) | (with_reducible refine gdtn_neg (by first | assumption | omega) ?_) | (with_reducible refine gdtn_split (fun hg => ?_) (fun hg => ?_))
    | (with_reducible refine gdfn_pos (by first | assumption | omega) ?_) | (with_reducible refine gdfn_neg (by first | assumption | omega) ?_) | (with_reducible refine gdfn_split (fun hg => ?_) (fun hg => ?_))
    | (with_reducible refine gdtbn_pos (by assumption) ?_) | (with_reducible refine gdtbn_neg (by assumption) ?_) | (with_reducible refine gdfbn_pos (by assumption) ?_) | (with_reducible refine gdfbn_neg (by assumption) ?_)
    | (with_reducible refine gdtb_pos (by assumption) ?_) | (with_reducible refine gdtb_neg (by assumption) ?_) | (with_reducible refine gdtb_split (fun hg => ?_) (fun hg => ?_))
    | (with_reducible refine gdfb_pos (by assumption) ?_) | (with_reducible refine gdfb_neg (by assumption) ?_) | (with_reducible refine gdfb_split (fun hg => ?_) (fun hg => ?_))
    | (with_reducible refine pickT ?_) | (with_reducible refine pickF ?_)
    | (with_reducible refine pick_pos (by first | assumption | omega) ?_) | (with_reducible refine pick_neg (by first | assumption | omega) ?_)
    | (with_reducible refine pickn_pos (by first | assumption | omega) ?_) | (with_reducible refine pickn_neg (by first | assumption | omega) ?_)
    | (with_reducible refine pickbn_pos (by assumption) ?_) | (with_reducible refine pickbn_neg (by assumption) ?_)
    | (with_reducible refine pickb_pos (by assumption) ?_) | (with_reducible refine pickb_neg (by assumption) ?_)
    | (with_reducible refine condT ?_) | (with_reducible refine condF ?_)
    | (with_reducible refine cond_pos (by first | assumption | omega) ?_) | (with_reducible refine cond_neg (by first | assumption | omega) ?_) | (with_reducible refine condM_dec (fun hg => ?_) (fun hg => ?_))
    | (with_reducible refine condn_pos (by first | assumption | omega) ?_) | (with_reducible refine condn_neg (by first | assumption | omega) ?_) | (with_reducible refine condM_ndec (fun hg => ?_) (fun hg => ?_))
    | (with_reducible refine condbn_pos (by assumption) ?_) | (with_reducible refine condbn_neg (by assumption) ?_) | (with_reducible refine condbn_split (fun hg => ?_) (fun hg => ?_))
    | (with_reducible refine condb_pos (by assumption) ?_) | (with_reducible refine condb_neg (by assumption) ?_) | (with_reducible refine condM_b (fun hg => ?_) (fun hg => ?_))
    | ((with_reducible refine oM_gen (fun Kv hK => ?_)); simp [go_sem]; (try simp (disch := omega) only [wrapI64, wrapU8, wrapU32, wrapU64]); (first | refine hK _ _ ?_ | refine And.intro (by omega) (hK _ _ ?_)); clear hK; clear Kv)))
    intro w9 hh9 f9
    repeat (any_goals (first
    | (with_reducible refine pureM_in ?_)
    | (with_reducible refine pureQ_in ?_) | (with_reducible refine gdQ_conv (fun _ => ?_)) | (with_reducible refine pickQT ?_) | (with_reducible refine pickQF ?_) | (with_reducible refine pickQ_pos (by first | assumption | omega) ?_) | (with_reducible refine pickQ_neg (by first | assumption | omega) ?_) | (with_reducible refine pickQn_pos (by first | assumption | omega) ?_) | (with_reducible refine pickQn_neg (by first | assumption | omega) ?_) | ((with_reducible refine oQ_one ?_ ?_); exact ⟨_, rfl⟩) | (with_reducible refine And.intro (Eq.refl (α := World) _) ?_) | (with_reducible refine forall_one ?_) | (with_reducible refine oQ_nil ?_) | (with_reducible refine oQ_of ⟨_, rfl⟩ (fun W0 hW0 => by (refine oM_gen (fun Kv hK => ?_)); simp [go_sem]; (first | exact hK _ _ ⟨rfl, rfl⟩ | exact ⟨by omega, hK _ _ ⟨rfl, rfl⟩⟩)) ?_)
    | (with_reducible refine gdtT ?_) | (with_reducible refine gdtF ?_) | (with_reducible refine gdfF ?_) | (with_reducible refine gdfT ?_) | (with_reducible refine gdu ?_ _)
    | (with_reducible refine gdt_pos (by first | assumption | omega) ?_) | (with_reducible refine gdt_neg (by first | assumption | omega) ?_) | (with_reducible refine gdt_split (fun hg => ?_) (fun hg => ?_))
    | (with_reducible refine gdf_pos (by first | assumption | omega) ?_) | (with_reducible refine gdf_neg (by first | assumption | omega) ?_) | (with_reducible refine gdf_split (fun hg => ?_) (fun hg => ?_))
    | (with_reducible refine gdtn_pos (by first | assumption | omega) ?_) | (with_reducible refine gdtn_neg (by first | assumption | omega) ?_) | (with_reducible refine gdtn_split (fun hg => ?_) (fun hg => ?_))
    | (with_reducible refine gdfn_pos (by first | assumption | omega) ?_) | (with_reducible refine gdfn_neg (by first | assumption | omega) ?_) | (with_reducible refine gdfn_split (fun hg => ?_) (fun hg => ?_))
    | (with_reducible refine gdtbn_pos (by assumption) ?_) | (with_reducible refine gdtbn_neg (by assumption) ?_) | (with_reducible refine gdfbn_pos (by assumption) ?_) | (with_reducible refine gdfbn_neg (by assumption) ?_)
    | (with_reducible refine gdtb_pos (by assumption) ?_) | (with_reducible refine gdtb_neg (by assumption) ?_) | (with_reducible refine gdtb_split (fun hg => ?_) (fun hg => ?_))
    | (with_reducible refine gdfb_pos (by assumption) ?_) | (with_reducible refine gdfb_neg (by assumption) ?_) | (with_reducible refine gdfb_split (fun hg => ?_) (fun hg => ?_))
    | (with_reducible refine pickT ?_) | (with_reducible refine pickF ?_)
    | (with_reducible refine pick_pos (by first | assumption | omega) ?_) | (with_reducible refine pick_neg (by first | assumption | omega) ?_)
    | (with_reducible refine pickn_pos (by first | assumption | omega) ?_) | (with_reducible refine pickn_neg (by first | assumption | omega) ?_)
    | (with_reducible refine pickbn_pos (by assumption) ?_) | (with_reducible refine pickbn_neg (by assumption) ?_)
    | (with_reducible refine pickb_pos (by assumption) ?_) | (with_reducible refine pickb_neg (by assumption) ?_)
    | (with_reducible refine condT ?_) | (with_reducible refine condF ?_)
    | (with_reducible refine cond_pos (by first | assumption | omega) ?_) | (with_reducible refine cond_neg (by first | assumption | omega) ?_) | (with_reducible refine condM_dec (fun hg => ?_) (fun hg => ?_))
    | (with_reducible refine condn_pos (by first | assumption | omega) ?_) | (with_reducible refine condn_neg (by first | assumption | omega) ?_) | (with_reducible refine condM_ndec (fun hg => ?_) (fun hg => ?_))
    | (with_reducible refine condbn_pos (by assumption) ?_) | (with_reducible refine condbn_neg (by assumption) ?_) | (with_reducible refine condbn_split (fun hg => ?_) (fun hg => ?_))
    | (with_reducible refine condb_pos (by assumption) ?_) | (with_reducible refine condb_neg (by assumption) ?_) | (with_reducible refine condM_b (fun hg => ?_) (fun hg => ?_))
    | ((with_reducible refine oM_gen (fun Kv hK => ?_)); simp [go_sem]; (try simp (disch := omega) only [wrapI64, wrapU8, wrapU32, wrapU64]); (first | refine hK _ _ ?_ | refine And.intro (by omega) (hK _ _ ?_)); clear hK; clear Kv)))
    exact k w9 (b8.trans ((below_none f9).mono D.le))
end
end Go.Proofs
