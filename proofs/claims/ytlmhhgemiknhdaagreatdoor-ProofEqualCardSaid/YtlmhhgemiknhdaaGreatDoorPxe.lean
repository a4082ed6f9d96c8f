/- Parts of the proof of the seat's statement ProofEqual (its formula and its walk): lemmas about the given translation. No condition of their own. -/
import Derived.Test.YtlmhhgemiknhdaaGreatDoorPwg
import Derived.Test.YtlmhhgemiknhdaaGreatDoorProg
set_option linter.all false
set_option maxRecDepth 100000
namespace Go.Proofs
open Go Go.Sh
def held_6_44 (K:Value → World → Prop) (v10 v11 v14 v16 v18 v20 v22 v73 v82:Value) (w:World):Prop:=
 heldM w (fun C_44 w=>(((true:Bool) = true) ∧ (pureH v22 C_44 (fun v83=>
 pureH v83 C_44 (fun v84=>
 gdH (gd v84 true) (pureH v73) C_44 (fun v85=>
 oH Tryz.prog (.pick (.tmp 0) (.tmp 1) (.tmp 2)) 4 [v84,v85,(.bool false)] C_44 (fun v86=>
 pureH v86 C_44 (fun v87=>
 gdH (gd v87 true) (pureH v82) C_44 (fun v88=>
 oH Tryz.prog (.pick (.tmp 0) (.tmp 1) (.tmp 2)) 4 [v87,v88,(.bool false)] C_44 (fun v89=>
 pureH v89 C_44 (fun v90=>
 gdH (gd v90 true) (oH Tryz.prog (.load 32 (.tmp 0)) 32 [v18]) C_44 (fun v91=>
 gdH (gd v90 true) (oH Tryz.prog (.load 32 (.tmp 0)) 32 [v10]) C_44 (fun v92=>
∃ S_55:World → World → Prop,∃ R_56:Value → World → Prop,(∀ v w w_1,S_55 w w_1 → R_56 v w → R_56 v w_1) ∧
 (∀ w,C_44 w → (gdM (gd v90 true) (callM Tryz.prog 29 #[v91,v92]) (fun v w_1=>C_44 w_1 ∧ S_55 w w_1 ∧ R_56 v w_1) w)) ∧
 (∃ R_57:Value → World → Prop,(∀ v w w_1,S_55 w w_1 → R_57 v w → R_57 v w_1) ∧
 (∀ w,C_44 w → ∀ v93,R_56 v93 w → (oM Tryz.prog (.pick (.tmp 0) (.tmp 1) (.tmp 2)) 4 [v90,v93,(.bool false)] (fun v w_1=>C_44 w_1 ∧ S_55 w w_1 ∧ R_57 v w_1) w)) ∧
 (∃ R_59:Value → World → Prop,(∀ v w w_1,S_55 w w_1 → R_59 v w → R_59 v w_1) ∧
 (∀ w,C_44 w → ∀ v94,R_57 v94 w → (C_44 w ∧ S_55 w w ∧ R_59 v94 w)) ∧
 (∃ R_61:Value → World → Prop,(∀ v w w_1,S_55 w w_1 → R_61 v w → R_61 v w_1) ∧
 (∀ w,C_44 w → ∀ v95,R_59 v95 w → (gdM (gd v95 true) (oM Tryz.prog (.load 32 (.tmp 0)) 32 [v20]) (fun v w_1=>C_44 w_1 ∧ S_55 w w_1 ∧ R_61 v w_1) w)) ∧
 (∃ R_63:Value → World → Prop,(∀ v w w_1,S_55 w w_1 → R_63 v w → R_63 v w_1) ∧
 (∀ w,C_44 w → ∀ v95,R_59 v95 w → (gdM (gd v95 true) (oM Tryz.prog (.load 32 (.tmp 0)) 32 [v11]) (fun v w_1=>C_44 w_1 ∧ S_55 w w_1 ∧ R_63 v w_1) w)) ∧
 (∃ R_65:Value → World → Prop,(∀ v w w_1,S_55 w w_1 → R_65 v w → R_65 v w_1) ∧
 (∀ w,C_44 w → ∀ v95,R_59 v95 w → ∀ v96,R_61 v96 w → ∀ v97,R_63 v97 w → (gdM (gd v95 true) (callM Tryz.prog 29 #[v96,v97]) (fun v w_1=>C_44 w_1 ∧ S_55 w w_1 ∧ R_65 v w_1) w)) ∧
 (∃ R_69:Value → World → Prop,(∀ v w w_1,S_55 w w_1 → R_69 v w → R_69 v w_1) ∧
 (∀ w,C_44 w → ∀ v95,R_59 v95 w → ∀ v98,R_65 v98 w → (oM Tryz.prog (.pick (.tmp 0) (.tmp 1) (.tmp 2)) 4 [v95,v98,(.bool false)] (fun v w_1=>C_44 w_1 ∧ S_55 w w_1 ∧ R_69 v w_1) w)) ∧
 (∃ R_72:Value → World → Prop,(∀ v w w_1,S_55 w w_1 → R_72 v w → R_72 v w_1) ∧
 (∀ w,C_44 w → ∀ v99,R_69 v99 w → (C_44 w ∧ S_55 w w ∧ R_72 v99 w)) ∧
 (∃ R_74:Value → World → Prop,(∀ v w w_1,S_55 w w_1 → R_74 v w → R_74 v w_1) ∧
 (∀ w,C_44 w → ∀ v100,R_72 v100 w → (gdM (gd v100 true) (oM Tryz.prog (.load 34 (.tmp 0)) 34 [v14]) (fun v w_1=>C_44 w_1 ∧ S_55 w w_1 ∧ R_74 v w_1) w)) ∧
 (∃ R_76:Value → World → Prop,(∀ v w w_1,S_55 w w_1 → R_76 v w → R_76 v w_1) ∧
 (∀ w,C_44 w → ∀ v100,R_72 v100 w → (gdM (gd v100 true) (oM Tryz.prog (.load 34 (.tmp 0)) 34 [v16]) (fun v w_1=>C_44 w_1 ∧ S_55 w w_1 ∧ R_76 v w_1) w)) ∧
 (∃ R_78:Value → World → Prop,(∀ v w w_1,S_55 w w_1 → R_78 v w → R_78 v w_1) ∧
 (∀ w,C_44 w → ∀ v100,R_72 v100 w → ∀ v101,R_74 v101 w → ∀ v102,R_76 v102 w → (gdM (gd v100 true) (callM Tryz.prog 20 #[v101,v102]) (fun v w_1=>C_44 w_1 ∧ S_55 w w_1 ∧ R_78 v w_1) w)) ∧
 (∃ R_82:Value → World → Prop,(∀ v w w_1,S_55 w w_1 → R_82 v w → R_82 v w_1) ∧
 (∀ w,C_44 w → ∀ v100,R_72 v100 w → (gdM (gd v100 true) (oM Tryz.prog (.load 32 (.tmp 0)) 32 [v10]) (fun v w_1=>C_44 w_1 ∧ S_55 w w_1 ∧ R_82 v w_1) w)) ∧
 (∃ R_84:Value → World → Prop,(∀ v w w_1,S_55 w w_1 → R_84 v w → R_84 v w_1) ∧
 (∀ w,C_44 w → ∀ v100,R_72 v100 w → (gdM (gd v100 true) (oM Tryz.prog (.load 32 (.tmp 0)) 32 [v11]) (fun v w_1=>C_44 w_1 ∧ S_55 w w_1 ∧ R_84 v w_1) w)) ∧
 (∀ w,C_44 w → ∀ v93,R_56 v93 w → ∀ v94,R_57 v94 w → ∀ v95,R_59 v95 w → ∀ v96,R_61 v96 w → ∀ v97,R_63 v97 w → ∀ v98,R_65 v98 w → ∀ v99,R_69 v99 w → ∀ v100,R_72 v100 w → ∀ v101,R_74 v101 w → ∀ v102,R_76 v102 w → ∀ v103,R_78 v103 w → ∀ v104,R_82 v104 w → ∀ v105,R_84 v105 w → (
 gdM (gd v100 true) (callM Tryz.prog 29 #[v104,v105]) (fun v106 w=>
 gdM (gd v100 true) (oM Tryz.prog (.binOp .eql 4 (.tmp 0) (.tmp 1) 4) 4 [v103,v106]) (fun v107 w=>
 oM Tryz.prog (.pick (.tmp 0) (.tmp 1) (.tmp 2)) 4 [v100,v107,(.bool false)] (fun v108 w=>
 K v108 w) w) w) w)))))))))))))))))))))))))))
def sh_6 (a0 a1 a2 a3 a4 a5:Value) (K:Value → World → Prop) (w:World):Prop:=
 oM Tryz.prog (.box 26 (.tmp 0)) 0 [a0] (fun v6 w=>
 oM Tryz.prog (.box 32 (.tmp 0)) 0 [a4] (fun v10 w=>
 oM Tryz.prog (.box 32 (.tmp 0)) 0 [a5] (fun v11 w=>
 callM Tryz.prog 14 #[] (fun v22 w=>
 oM Tryz.prog (.load 26 (.tmp 0)) 26 [v6] (fun v23 w=>
 callM Tryz.prog 15 #[v23,a1,a2,a3] (fun v27 w=>
 oM Tryz.prog (.unOp .not 4 (.tmp 0)) 4 [v27] (fun v28 w=>
 gdM (gd v28 false) (oM Tryz.prog (.load 32 (.tmp 0)) 32 [v10]) (fun v30 w=>
 gdM (gd v28 false) (callM Tryz.prog 16 #[v30]) (fun v31 w=>
 gdM (gd v28 false) (oM Tryz.prog (.unOp .not 4 (.tmp 0)) 4 [v31]) (fun v32 w=>
 oM Tryz.prog (.pick (.tmp 0) (.tmp 1) (.tmp 2)) 4 [v28,(.bool true),v32] (fun v33 w=>
 gdM (gd v33 false) (oM Tryz.prog (.load 32 (.tmp 0)) 32 [v11]) (fun v35 w=>
 gdM (gd v33 false) (callM Tryz.prog 16 #[v35]) (fun v36 w=>
 gdM (gd v33 false) (oM Tryz.prog (.unOp .not 4 (.tmp 0)) 4 [v36]) (fun v37 w=>
 oM Tryz.prog (.pick (.tmp 0) (.tmp 1) (.tmp 2)) 4 [v33,(.bool true),v37] (fun v38 w=>
 condM v38
 (K v22 w)
 (oM Tryz.prog (.load 26 (.tmp 0)) 26 [v6] (fun v41 w=>
 oM Tryz.prog (.load 32 (.tmp 0)) 32 [v10] (fun v45 w=>
 callM Tryz.prog 18 #[v41,a1,a2,a3,v45] (fun v46 w=>
 oM Tryz.prog (.extract (.tmp 0) 0) 34 [v46] (fun v47 w=>
 oM Tryz.prog (.extract (.tmp 0) 1) 39 [v46] (fun v48 w=>
 oM Tryz.prog (.alloc 34) 0 [] (fun v14 w=>
 oM Tryz.prog (.store 34 (.tmp 0) (.tmp 1)) 0 [v14,v47] (fun _ w=>
 oM Tryz.prog (.load 26 (.tmp 0)) 26 [v6] (fun v50 w=>
 oM Tryz.prog (.load 32 (.tmp 0)) 32 [v11] (fun v54 w=>
 callM Tryz.prog 18 #[v50,a1,a2,a3,v54] (fun v55 w=>
 oM Tryz.prog (.extract (.tmp 0) 0) 34 [v55] (fun v56 w=>
 oM Tryz.prog (.extract (.tmp 0) 1) 39 [v55] (fun v57 w=>
 oM Tryz.prog (.alloc 34) 0 [] (fun v16 w=>
 oM Tryz.prog (.store 34 (.tmp 0) (.tmp 1)) 0 [v16,v56] (fun _ w=>
 oM Tryz.prog (.binOp .neq 39 (.tmp 0) (.const (.int .i64 0)) 39) 4 [v48] (fun v59 w=>
 gdM (gd v59 false) (pureM v57) (fun v61 w=>
 gdM (gd v59 false) (oM Tryz.prog (.binOp .neq 39 (.tmp 0) (.const (.int .i64 0)) 39) 4 [v61]) (fun v62 w=>
 oM Tryz.prog (.pick (.tmp 0) (.tmp 1) (.tmp 2)) 4 [v59,(.bool true),v62] (fun v63 w=>
 condM v63
 (K v22 w)
 (oM Tryz.prog (.load 26 (.tmp 0)) 26 [v6] (fun v66 w=>
 oM Tryz.prog (.load 34 (.tmp 0)) 34 [v14] (fun v69 w=>
 callM Tryz.prog 27 #[v66,a1,a2,v69,a3] (fun v71 w=>
 oM Tryz.prog (.extract (.tmp 0) 0) 32 [v71] (fun v72 w=>
 oM Tryz.prog (.extract (.tmp 0) 1) 4 [v71] (fun v73 w=>
 oM Tryz.prog (.alloc 32) 0 [] (fun v18 w=>
 oM Tryz.prog (.store 32 (.tmp 0) (.tmp 1)) 0 [v18,v72] (fun _ w=>
 oM Tryz.prog (.load 26 (.tmp 0)) 26 [v6] (fun v75 w=>
 oM Tryz.prog (.load 34 (.tmp 0)) 34 [v16] (fun v78 w=>
 callM Tryz.prog 27 #[v75,a1,a2,v78,a3] (fun v80 w=>
 oM Tryz.prog (.extract (.tmp 0) 0) 32 [v80] (fun v81 w=>
 oM Tryz.prog (.extract (.tmp 0) 1) 4 [v80] (fun v82 w=>
 oM Tryz.prog (.alloc 32) 0 [] (fun v20 w=>
 oM Tryz.prog (.store 32 (.tmp 0) (.tmp 1)) 0 [v20,v81] (fun _ w=>
 held_6_44 K v10 v11 v14 v16 v18 v20 v22 v73 v82 w) w) w) w) w) w) w) w) w) w) w) w) w) w) w)) w) w) w) w) w) w) w) w) w) w) w) w) w) w) w) w) w) w)) w) w) w) w) w) w) w) w) w) w) w) w) w) w) w
theorem sh_6_ok {a0 a1 a2 a3 a4 a5:Value} {K:Value → World → Prop} {w:World} (h:sh_6 a0 a1 a2 a3 a4 a5 K w):callM Tryz.prog 6 #[a0,a1,a2,a3,a4,a5] K w:=
 calls_of_code (fun _=>.free [0,1,2,3,4,5,6,7,8,9] [10,11,12,13,14,15,16,17,18,19,20,21,22] [23,24,25,26]) (fn:=Tryz.f6) (rs:=[.tmp 12]) Tryz.func6 rfl rfl (by kernel_rfl) (Nat.le_of_ble_eq_true rfl) (Eq.mp (by kernel_rfl) h)
end Go.Proofs
namespace Go.Proofs
open Go Go.Sh Go.RowKit FdSpec TkSpec CodeSpec PrSpec FdPoly
set_option maxRecDepth 10000
section
variable {K:Value → World → Prop} {w w' w0 W W' We W1 W2:World} {L:List (Addr × Value)} {g n B b i:Nat} {row:Option Nat}
set_option maxHeartbeats 4000000 in
theorem equal_ok (s:Stp) (goal:List Cls) (ctx:Bytes) (know:List (List Knw)) (n1 n2:List (List (List Int))) (d1 d2:List (List Int)) {sv gv kv nv1 dv1 nv2 dv2:Value} (hs:SetR w s sv) (hg:GoalR w gv goal) (hk0:KnowR w kv know) (hn1:NumsR w nv1 n1) (hd1:ListsR w dv1 d1) (hn2:NumsR w nv2 n2) (hd2:ListsR w dv2 d2) (hl:Cd.Laid w) (hc:ctx.length < 1000000000000000)
  (k:∀ w',Below w.heap.size w w' → K (.bool true) w'):callM Tryz.prog 6 #[stpV s sv,gv,.string ⟨ctx.toArray⟩,kv,prfV nv1 dv1,prfV nv2 dv2] K w:=by
 apply sh_6_ok
 unfold sh_6
 have hs':=hs
 have hn1':=hn1
 have hn2':=hn2
 have hd1':=hd1
 have hd2':=hd2
 obtain ⟨ad,c,rfl⟩:=hs.ints.isSlice
 obtain ⟨a1,c1,rfl⟩:=hn1.isSlice
 obtain ⟨a2,c2,rfl⟩:=hd1.isSlice
 obtain ⟨a3,c3,rfl⟩:=hn2.isSlice
 obtain ⟨a4,c4,rfl⟩:=hd2.isSlice
 refine box_kn (cs:=stpC s (.slice ad s.bases.length c)) rfl (.start w) fun b1 W hk hb1 hbb=>?_
 refine box_kn (cs:=prfC (.slice a1 n1.length c1) (.slice a2 d1.length c2)) rfl hk fun b2 W hk hb2 hbb=>?_
 refine box_kn (cs:=prfC (.slice a3 n2.length c3) (.slice a4 d2.length c4)) rfl hk fun b3 W hk hb3 hbb=>?_
 clear hb1 hb2 hb3 hbb
 refine small_ok (hs'.db.next hk.below) (hl.below hk.below hl.size) (fun w1 h1=>?_)
 have hk:=hk.next h1
 repeat (any_goals ((with_reducible refine oM_gen fun Kv hK=>?_); simp [go_sem,hk.cells]; refine hK _ _ ?_; clear hK Kv))
 refine few_ok s goal ctx know (hs'.next hk.below) (hg.next (atOf_stay cls_vstay) hk.below) (hk0.next (atOf_stay knws_vstay) hk.below) hc (fun w2 q h2 hq=>?_)
 have hk:=hk.next h2
 cases q with
 | false=>
  repeat (any_goals (first
  | (with_reducible first|refine zD ?_|refine yB ?_|refine yL ?_)
  | ((with_reducible refine oM_gen fun Kv hK=>?_); simp [go_sem]; refine hK _ _ ?_; clear hK Kv)))
  exact k _ hk.below
 | true=>
 obtain ⟨hN,hctx⟩:=hq rfl
 repeat (any_goals (first
 | (with_reducible refine zC ?_)
 | ((with_reducible refine oM_gen fun Kv hK=>?_); simp [go_sem,hk.cells]; refine hK _ _ ?_; clear hK Kv)))
 refine fewNoise_ok (hd1'.next (atOf_stay ints_stay) hk.below) (hn1'.next (atOf_stay lists_vstay) hk.below) (fun w2 q h2 hq=>?_)
 have hk:=hk.next h2
 cases q with
 | false=>
  repeat (any_goals (first
  | (with_reducible first|((refine idGd ?_); first|refine zC ?_|refine zD ?_)|((refine idPick ?_); first|refine yB ?_|refine yC ?_)|refine yL ?_)
  | ((with_reducible refine oM_gen fun Kv hK=>?_); simp [go_sem]; refine hK _ _ ?_; clear hK Kv)))
  exact k _ hk.below
 | true=>
 repeat (any_goals (first
 | (with_reducible first|refine zC ?_|refine yC ?_)
 | ((with_reducible refine oM_gen fun Kv hK=>?_); simp [go_sem,hk.cells]; refine hK _ _ ?_; clear hK Kv)))
 refine fewNoise_ok (hd2'.next (atOf_stay ints_stay) hk.below) (hn2'.next (atOf_stay lists_vstay) hk.below) (fun w2 q h2 hq=>?_)
 have hk:=hk.next h2
 cases q with
 | false=>
  repeat (any_goals (first
  | (with_reducible first|refine zC ?_|refine yC ?_|refine yL ?_)
  | ((with_reducible refine oM_gen fun Kv hK=>?_); simp [go_sem]; refine hK _ _ ?_; clear hK Kv)))
  exact k _ hk.below
 | true=>
 repeat (any_goals (first
 | (with_reducible first|refine zC ?_|refine yC ?_|refine yM ?_)
 | ((with_reducible refine oM_gen fun Kv hK=>?_); simp [go_sem,hk.cells]; refine hK _ _ ?_; clear hK Kv)))
 refine Prove_ok s goal ctx know n1 d1 (hs'.next hk.below) (hg.next (atOf_stay cls_vstay) hk.below) (hk0.next (atOf_stay knws_vstay) hk.below) (hn1'.next (atOf_stay lists_vstay) hk.below) (hd1'.next (atOf_stay ints_stay) hk.below) (hl.below hk.below hl.size) hN hctx (fun w3 pv av h3 hpv hav=>?_)
 have hk:=hk.next h3
 obtain ⟨pad,pc,rfl⟩:=id hpv.isSlice
 obtain ⟨aad,ac,rfl⟩:=id hav.isSlice
 iterate 2 (any_goals ((with_reducible refine oM_gen fun Kv hK=>?_); simp [go_sem]; refine hK _ _ ?_; clear hK Kv))
 refine local_prf _ _ _ _ _ _ hk (fun b4 w4 hk h4 hg4=>?_)
 have hpv:=hpv.next (atOf_stay ints_stay) h4
 have hav:=hav.next (atOf_stay lists_vstay) h4
 repeat (any_goals ((with_reducible refine oM_gen fun Kv hK=>?_); simp [go_sem,hk.cells]; refine hK _ _ ?_; clear hK Kv))
 refine Prove_ok s goal ctx know n2 d2 (hs'.next hk.below) (hg.next (atOf_stay cls_vstay) hk.below) (hk0.next (atOf_stay knws_vstay) hk.below) (hn2'.next (atOf_stay lists_vstay) hk.below) (hd2'.next (atOf_stay ints_stay) hk.below) (hl.below hk.below hl.size) hN hctx (fun w5 pv2 av2 h5 hpv2 hav2=>?_)
 have hk:=hk.next h5
 obtain ⟨pad2,pc2,rfl⟩:=id hpv2.isSlice
 obtain ⟨aad2,ac2,rfl⟩:=id hav2.isSlice
 iterate 2 (any_goals ((with_reducible refine oM_gen fun Kv hK=>?_); simp [go_sem]; refine hK _ _ ?_; clear hK Kv))
 refine local_prf _ _ _ _ _ _ hk (fun b6 w6 hk h6 hg6=>?_)
 have hpv:=(hpv.next (atOf_stay ints_stay) h5).next (atOf_stay ints_stay) h6
 have hav:=(hav.next (atOf_stay lists_vstay) h5).next (atOf_stay lists_vstay) h6
 have hpv2:=hpv2.next (atOf_stay ints_stay) h6
 have hav2:=hav2.next (atOf_stay lists_vstay) h6
 by_cases e1:(proveM s goal ctx know n1 d1).2 = 0
 case neg=>
  repeat (any_goals (first
  | (with_reducible first|refine zD ?_|refine yB ?_|refine yL ?_)
  | ((with_reducible refine oM_gen fun Kv hK=>?_); simp [go_sem,e1]; refine hK _ _ ?_; clear hK Kv)))
  exact k _ hk.below
 by_cases e2:(proveM s goal ctx know n2 d2).2 = 0
 case neg=>
  repeat (any_goals (first
  | (with_reducible first|refine pureM_in ?_|refine zC ?_|refine yC ?_|refine yL ?_)
  | ((with_reducible refine oM_gen fun Kv hK=>?_); simp [go_sem,e1,e2]; refine hK _ _ ?_; clear hK Kv)))
  exact k _ hk.below
 have hx1:=explained e1
 have hx2:=explained e2
 have hlaw:=equal_law e1 e2
 generalize proveM s goal ctx know n1 d1 = P at *
 generalize proveM s goal ctx know n2 d2 = Q at *
 repeat (any_goals (first
 | (with_reducible first|refine pureM_in ?_|refine zC ?_|refine yC ?_|refine yM ?_)
 | ((with_reducible refine oM_gen fun Kv hK=>?_); simp [go_sem,hk.cells,e1,e2]; refine hK _ _ ?_; clear hK Kv)))
 refine Explain_ok s goal ctx know P.1.2 P.1.1 (hs'.next hk.below) (hg.next (atOf_stay cls_vstay) hk.below) (hk0.next (atOf_stay knws_vstay) hk.below) hav hpv (hl.below hk.below hl.size) hN hctx (fun w7 xn xd h7 hxn hxd=>?_)
 rw [hx1] at hxn hxd ⊢
 have hxn:NumsR w7 xn n1:=hxn
 have hxd:ListsR w7 xd d1:=hxd
 obtain ⟨xad,xc,rfl⟩:=id hxn.isSlice
 obtain ⟨yad,yc,rfl⟩:=id hxd.isSlice
 have hk:=hk.next h7
 iterate 2 (any_goals ((with_reducible refine oM_gen fun Kv hK=>?_); simp [go_sem]; refine hK _ _ ?_; clear hK Kv))
 refine local_nse _ _ _ _ _ _ hk (fun b8 w8 hk h8 hg8=>?_)
 have h78:=h7.on h8
 have hpv:=hpv.next (atOf_stay ints_stay) h78
 have hav:=hav.next (atOf_stay lists_vstay) h78
 have hpv2:=hpv2.next (atOf_stay ints_stay) h78
 have hav2:=hav2.next (atOf_stay lists_vstay) h78
 have hxn:=hxn.next (atOf_stay lists_vstay) h8
 have hxd:=hxd.next (atOf_stay ints_stay) h8
 repeat (any_goals ((with_reducible refine oM_gen fun Kv hK=>?_); simp [go_sem,hk.cells]; refine hK _ _ ?_; clear hK Kv))
 refine Explain_ok s goal ctx know Q.1.2 Q.1.1 (hs'.next hk.below) (hg.next (atOf_stay cls_vstay) hk.below) (hk0.next (atOf_stay knws_vstay) hk.below) hav2 hpv2 (hl.below hk.below hl.size) hN hctx (fun w9 yn yd h9 hyn hyd=>?_)
 rw [hx2] at hyn hyd ⊢
 have hyn:NumsR w9 yn n2:=hyn
 have hyd:ListsR w9 yd d2:=hyd
 obtain ⟨xad2,xc2,rfl⟩:=id hyn.isSlice
 obtain ⟨yad2,yc2,rfl⟩:=id hyd.isSlice
 have hk:=hk.next h9
 iterate 2 (any_goals ((with_reducible refine oM_gen fun Kv hK=>?_); simp [go_sem]; refine hK _ _ ?_; clear hK Kv))
 refine local_nse _ _ _ _ _ _ hk (fun b10 w10 hk h10 hg10=>?_)
 have h90:=h9.on h10
 have hodr:Below w10.heap.size w10 { w10 with drawn:=w10.drawn + 1 }:=.drawn
 have hall:=h90.on hodr
 have hpv:=hpv.next (atOf_stay ints_stay) hall
 have hav:=hav.next (atOf_stay lists_vstay) hall
 have hpv2:=hpv2.next (atOf_stay ints_stay) hall
 have hav2:=hav2.next (atOf_stay lists_vstay) hall
 have hxn:=hxn.next (atOf_stay lists_vstay) hall
 have hxd:=hxd.next (atOf_stay ints_stay) hall
 have hyn:=hyn.next (atOf_stay lists_vstay) (h10.on hodr)
 have hyd:=hyd.next (atOf_stay ints_stay) (h10.on hodr)
 have hk:=hk.next hodr
 unfold held_6_44
 refine ⟨Nx { w10 with drawn:=w10.drawn + 1 },Below.refl _ _,rfl,?_⟩
 have hbW:Below w.heap.size w { w10 with drawn:=w10.drawn + 1 }:=hk.below
 generalize ({ w10 with drawn:=w10.drawn + 1 }:World) = W at hk hpv hav hpv2 hav2 hxn hxd hyn hyd hbW ⊢
 have hn1W:=hn1'.next (atOf_stay lists_vstay) hbW
 have hd1W:=hd1'.next (atOf_stay ints_stay) hbW
 have hn2W:=hn2'.next (atOf_stay lists_vstay) hbW
 have hd2W:=hd2'.next (atOf_stay ints_stay) hbW
 repeat (any_goals (first
 | (with_reducible first|refine pureH_in ?_|((refine idGdH ?_); refine gdH_conv fun _=>?_)|refine zA ?_)
 | ((with_reducible refine idOH ?_); first|(with_reducible refine vA ?_)|(with_reducible refine oH_of ⟨_,rfl⟩ (fun W0 hW0=>by (refine oM_gen (fun Kv hK=>?_)); simp [go_sem,(hk.next hW0).cells]; (first | exact hK _ _ ⟨rfl,rfl⟩ | exact ⟨by omega,hK _ _ ⟨rfl,rfl⟩⟩)) ?_))))
 refine ⟨Nx,?_⟩
 have eN:∀ (d:List (List Int)) (n:List (List (List Int))),(decide (d = d) && decide (n = n)) = true:=fun d n=>by simp
 apply monoE
 ·(intro w9 h9; repeat (intro v9 e9; try (obtain rfl:=e9)))
  repeat (any_goals (with_reducible refine zA ?_))
  refine SameNoise_ok (hxd.next (atOf_stay ints_stay) h9) (hxn.next (atOf_stay lists_vstay) h9) (hd1W.next (atOf_stay ints_stay) h9) (hn1W.next (atOf_stay lists_vstay) h9) (fun w2 h2=>⟨h9.on h2,h2,rfl⟩)
 rw [eN]
 repeat (apply monoE; focus (intro w9 h9; (repeat (intro v9 e9; try (obtain rfl:=e9))); (repeat (any_goals (first
  | (with_reducible first|refine zA ?_|refine yB ?_)
  | ((with_reducible refine oM_gen fun Kv hK=>?_); simp [go_sem,(hk.next h9).cells]; refine hK _ _ ?_; clear hK Kv)))); exact ⟨h9,Below.refl _ _,rfl⟩))
 apply monoE
 ·(intro w9 h9; repeat (intro v9 e9; try (obtain rfl:=e9)))
  repeat (any_goals (with_reducible refine zA ?_))
  exact SameNoise_ok (hyd.next (atOf_stay ints_stay) h9) (hyn.next (atOf_stay lists_vstay) h9) (hd2W.next (atOf_stay ints_stay) h9) (hn2W.next (atOf_stay lists_vstay) h9) (fun w2 h2=>⟨h9.on h2,h2,rfl⟩)
 rw [eN]
 repeat (apply monoE; focus (intro w9 h9; (repeat (intro v9 e9; try (obtain rfl:=e9))); (repeat (any_goals (first
  | (with_reducible first|refine zA ?_|refine yB ?_)
  | ((with_reducible refine oM_gen fun Kv hK=>?_); simp [go_sem,(hk.next h9).cells]; refine hK _ _ ?_; clear hK Kv)))); exact ⟨h9,Below.refl _ _,rfl⟩))
 apply monoE
 ·(intro w9 h9; repeat (intro v9 e9; try (obtain rfl:=e9)))
  repeat (any_goals (with_reducible refine zA ?_))
  exact SameProof_ok (hpv.next (atOf_stay ints_stay) h9) (hav.next (atOf_stay lists_vstay) h9) (hpv2.next (atOf_stay ints_stay) h9) (hav2.next (atOf_stay lists_vstay) h9) (fun w2 h2=>⟨h9.on h2,h2,rfl⟩)
 repeat (apply monoE; focus (intro w9 h9; (repeat (intro v9 e9; try (obtain rfl:=e9))); (repeat (any_goals (first
  | (with_reducible refine zA ?_)
  | ((with_reducible refine oM_gen fun Kv hK=>?_); simp [go_sem,(hk.next h9).cells]; refine hK _ _ ?_; clear hK Kv)))); exact ⟨h9,Below.refl _ _,rfl⟩))
 (intro w9 h9; repeat (intro v9 e9; try (obtain rfl:=e9)))
 have hk:=hk.next h9
 repeat (any_goals (with_reducible refine zA ?_))
 refine SameNoise_ok (hd1W.next (atOf_stay ints_stay) h9) (hn1W.next (atOf_stay lists_vstay) h9) (hd2W.next (atOf_stay ints_stay) h9) (hn2W.next (atOf_stay lists_vstay) h9) (fun w11 h11=>?_)
 have hk:=hk.next h11
 rw [hlaw]
 have k:=k _ hk.below
 generalize (decide (d1 = d2) && decide (n1 = n2)) = q at *
 cases q with
 | false=>
  repeat (any_goals (first
  | (with_reducible first|refine zA ?_|refine yB ?_)
  | ((with_reducible refine oM_gen fun Kv hK=>?_); simp [go_sem]; refine hK _ _ ?_; clear hK Kv)))
  exact k
 | true=>
  repeat (any_goals (first
  | (with_reducible first|refine zA ?_|refine yB ?_)
  | ((with_reducible refine oM_gen fun Kv hK=>?_); simp [go_sem]; refine hK _ _ ?_; clear hK Kv)))
  exact k
end
end Go.Proofs
