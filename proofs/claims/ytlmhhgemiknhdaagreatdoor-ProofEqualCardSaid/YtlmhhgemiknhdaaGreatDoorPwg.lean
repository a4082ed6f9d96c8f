/- Parts of the proof of the seat's statements (HL5, LwF): lemmas about the given translation and plain laws. No condition of their own. -/
import Derived.Test.YtlmhhgemiknhdaaGreatDoorPwf
import Derived.Test.YtlmhhgemiknhdaaGreatDoorProg
set_option linter.all false
set_option maxRecDepth 100000
namespace Go.Proofs
open Go Go.Sh
def held_5_59 (K:Value → World → Prop) (v13 v16 v18 v20 v24 v76:Value) (w:World):Prop:=
 heldM w (fun C_59 w=>(((true:Bool) = true) ∧ (pureH v24 C_59 (fun v105=>
 pureH v105 C_59 (fun v106=>
 gdH (gd v106 true) (pureH v76) C_59 (fun v107=>
 gdH (gd v106 true) (oH Tryz.prog (.binOp .neq 39 (.tmp 0) (.const (.int .i64 0)) 39) 4 [v107]) C_59 (fun v108=>
 gdH (gd v106 true) (pureH v108) C_59 (fun v109=>
 gdH (gd v109 false) (oH Tryz.prog (.load 34 (.tmp 0)) 34 [v20]) C_59 (fun v110=>
 gdH (gd v109 false) (oH Tryz.prog (.load 34 (.tmp 0)) 34 [v16]) C_59 (fun v111=>
 gdH (gd v109 false) (oH Tryz.prog (.load 32 (.tmp 0)) 32 [v18]) C_59 (fun v113=>
 gdH (gd v109 false) (oH Tryz.prog (.load 32 (.tmp 0)) 32 [v13]) C_59 (fun v114=>
∃ S_69:World → World → Prop,∃ R_70:Value → World → Prop,(∀ v w w_1,S_69 w w_1 → R_70 v w → R_70 v w_1) ∧
 (∀ w,C_59 w → (gdM (gd v109 false) (callM Tryz.prog 20 #[v110,v111]) (fun v w_1=>C_59 w_1 ∧ S_69 w w_1 ∧ R_70 v w_1) w)) ∧
 (∀ w,C_59 w → ∀ v112,R_70 v112 w → (
 gdM (gd v109 false) (callM Tryz.prog 29 #[v113,v114]) (fun v115 w=>
 gdM (gd v109 false) (oM Tryz.prog (.binOp .eql 4 (.tmp 0) (.tmp 1) 4) 4 [v112,v115]) (fun v116 w=>
 gdM (gd v106 true) (oM Tryz.prog (.pick (.tmp 0) (.tmp 1) (.tmp 2)) 4 [v109,(.bool true),v116]) (fun v117 w=>
 oM Tryz.prog (.pick (.tmp 0) (.tmp 1) (.tmp 2)) 4 [v106,v117,(.bool false)] (fun v118 w=>
 K v118 w) w) w) w) w))))))))))))))
def sh_5 (a0 a1 a2 a3 a4 a5 a6:Value) (K:Value → World → Prop) (w:World):Prop:=
 oM Tryz.prog (.box 26 (.tmp 0)) 0 [a0] (fun v7 w=>
 oM Tryz.prog (.box 32 (.tmp 0)) 0 [a4] (fun v11 w=>
 oM Tryz.prog (.box 32 (.tmp 0)) 0 [a6] (fun v13 w=>
 callM Tryz.prog 14 #[] (fun v24 w=>
 oM Tryz.prog (.load 26 (.tmp 0)) 26 [v7] (fun v25 w=>
 callM Tryz.prog 15 #[v25,a1,a2,a3] (fun v29 w=>
 oM Tryz.prog (.unOp .not 4 (.tmp 0)) 4 [v29] (fun v30 w=>
 gdM (gd v30 false) (oM Tryz.prog (.load 32 (.tmp 0)) 32 [v11]) (fun v32 w=>
 gdM (gd v30 false) (callM Tryz.prog 16 #[v32]) (fun v33 w=>
 gdM (gd v30 false) (oM Tryz.prog (.unOp .not 4 (.tmp 0)) 4 [v33]) (fun v34 w=>
 oM Tryz.prog (.pick (.tmp 0) (.tmp 1) (.tmp 2)) 4 [v30,(.bool true),v34] (fun v35 w=>
 gdM (gd v35 false) (pureM a5) (fun v37 w=>
 gdM (gd v35 false) (callM Tryz.prog 36 #[v37]) (fun v38 w=>
 gdM (gd v35 false) (oM Tryz.prog (.unOp .not 4 (.tmp 0)) 4 [v38]) (fun v39 w=>
 oM Tryz.prog (.pick (.tmp 0) (.tmp 1) (.tmp 2)) 4 [v35,(.bool true),v39] (fun v40 w=>
 gdM (gd v40 false) (oM Tryz.prog (.load 32 (.tmp 0)) 32 [v13]) (fun v42 w=>
 gdM (gd v40 false) (callM Tryz.prog 16 #[v42]) (fun v43 w=>
 gdM (gd v40 false) (oM Tryz.prog (.unOp .not 4 (.tmp 0)) 4 [v43]) (fun v44 w=>
 oM Tryz.prog (.pick (.tmp 0) (.tmp 1) (.tmp 2)) 4 [v40,(.bool true),v44] (fun v45 w=>
 condM v45
 (K v24 w)
 (oM Tryz.prog (.load 26 (.tmp 0)) 26 [v7] (fun v48 w=>
 oM Tryz.prog (.load 32 (.tmp 0)) 32 [v11] (fun v52 w=>
 callM Tryz.prog 18 #[v48,a1,a2,a3,v52] (fun v53 w=>
 oM Tryz.prog (.extract (.tmp 0) 0) 34 [v53] (fun v54 w=>
 oM Tryz.prog (.extract (.tmp 0) 1) 39 [v53] (fun v55 w=>
 oM Tryz.prog (.alloc 34) 0 [] (fun v16 w=>
 oM Tryz.prog (.store 34 (.tmp 0) (.tmp 1)) 0 [v16,v54] (fun _ w=>
 oM Tryz.prog (.binOp .neq 39 (.tmp 0) (.const (.int .i64 0)) 39) 4 [v55] (fun v57 w=>
 condM v57
 (K v24 w)
 (oM Tryz.prog (.load 26 (.tmp 0)) 26 [v7] (fun v60 w=>
 oM Tryz.prog (.load 34 (.tmp 0)) 34 [v16] (fun v63 w=>
 callM Tryz.prog 27 #[v60,a1,a2,v63,a5] (fun v65 w=>
 oM Tryz.prog (.extract (.tmp 0) 0) 32 [v65] (fun v66 w=>
 oM Tryz.prog (.extract (.tmp 0) 1) 4 [v65] (fun v67 w=>
 oM Tryz.prog (.alloc 32) 0 [] (fun v18 w=>
 oM Tryz.prog (.store 32 (.tmp 0) (.tmp 1)) 0 [v18,v66] (fun _ w=>
 oM Tryz.prog (.load 26 (.tmp 0)) 26 [v7] (fun v69 w=>
 oM Tryz.prog (.load 32 (.tmp 0)) 32 [v13] (fun v73 w=>
 callM Tryz.prog 18 #[v69,a1,a2,a5,v73] (fun v74 w=>
 oM Tryz.prog (.extract (.tmp 0) 0) 34 [v74] (fun v75 w=>
 oM Tryz.prog (.extract (.tmp 0) 1) 39 [v74] (fun v76 w=>
 oM Tryz.prog (.alloc 34) 0 [] (fun v20 w=>
 oM Tryz.prog (.store 34 (.tmp 0) (.tmp 1)) 0 [v20,v75] (fun _ w=>
 oM Tryz.prog (.unOp .not 4 (.tmp 0)) 4 [v67] (fun v78 w=>
 condM v78
 (gdM (gd v24 true) (pureM v76) (fun v81 w=>
 gdM (gd v24 true) (oM Tryz.prog (.binOp .eql 39 (.tmp 0) (.const (.int .i64 1)) 39) 4 [v81]) (fun v82 w=>
 gdM (gd v24 true) (pureM v82) (fun v83 w=>
 gdM (gd v83 false) (pureM v76) (fun v84 w=>
 gdM (gd v83 false) (oM Tryz.prog (.binOp .eql 39 (.tmp 0) (.const (.int .i64 13)) 39) 4 [v84]) (fun v85 w=>
 gdM (gd v24 true) (oM Tryz.prog (.pick (.tmp 0) (.tmp 1) (.tmp 2)) 4 [v83,(.bool true),v85]) (fun v86 w=>
 oM Tryz.prog (.pick (.tmp 0) (.tmp 1) (.tmp 2)) 4 [v24,v86,(.bool false)] (fun v87 w=>
 K v87 w) w) w) w) w) w) w) w)
 (oM Tryz.prog (.load 26 (.tmp 0)) 26 [v7] (fun v89 w=>
 oM Tryz.prog (.load 32 (.tmp 0)) 32 [v18] (fun v93 w=>
 callM Tryz.prog 18 #[v89,a1,a2,a5,v93] (fun v94 w=>
 oM Tryz.prog (.extract (.tmp 0) 0) 34 [v94] (fun v95 w=>
 oM Tryz.prog (.extract (.tmp 0) 1) 39 [v94] (fun v96 w=>
 oM Tryz.prog (.alloc 34) 0 [] (fun v22 w=>
 oM Tryz.prog (.store 34 (.tmp 0) (.tmp 1)) 0 [v22,v95] (fun _ w=>
 oM Tryz.prog (.binOp .neq 39 (.tmp 0) (.const (.int .i64 0)) 39) 4 [v96] (fun v98 w=>
 gdM (gd v98 false) (oM Tryz.prog (.load 34 (.tmp 0)) 34 [v22]) (fun v100 w=>
 gdM (gd v98 false) (oM Tryz.prog (.load 34 (.tmp 0)) 34 [v16]) (fun v101 w=>
 gdM (gd v98 false) (callM Tryz.prog 20 #[v100,v101]) (fun v102 w=>
 gdM (gd v98 false) (oM Tryz.prog (.unOp .not 4 (.tmp 0)) 4 [v102]) (fun v103 w=>
 oM Tryz.prog (.pick (.tmp 0) (.tmp 1) (.tmp 2)) 4 [v98,(.bool true),v103] (fun v104 w=>
 condM v104
 (K (.bool false) w)
 (held_5_59 K v13 v16 v18 v20 v24 v76 w)) w) w) w) w) w) w) w) w) w) w) w) w) w)) w) w) w) w) w) w) w) w) w) w) w) w) w) w) w)) w) w) w) w) w) w) w) w)) w) w) w) w) w) w) w) w) w) w) w) w) w) w) w) w) w) w) w
theorem sh_5_ok {a0 a1 a2 a3 a4 a5 a6:Value} {K:Value → World → Prop} {w:World} (h:sh_5 a0 a1 a2 a3 a4 a5 a6 K w):callM Tryz.prog 5 #[a0,a1,a2,a3,a4,a5,a6] K w:=
 calls_of_code (fun _=>.free [0,1,2,3,4,5,6,8,9] [7] [10,11,12,13,14]) (fn:=Tryz.f5) (rs:=[.tmp 14]) Tryz.func5 rfl rfl (by kernel_rfl) (Nat.le_of_ble_eq_true rfl) (Eq.mp (by kernel_rfl) h)
end Go.Proofs
namespace Go.Proofs
open Go Go.Sh Go.RowKit FdSpec TkSpec CodeSpec PrSpec FdPoly
set_option maxRecDepth 10000
section
variable {K:Value → World → Prop} {w w' w0 W W' We W1 W2:World} {L:List (Addr × Value)} {g n B b i:Nat} {row:Option Nat}
theorem witness_no {s:Stp} {goal:List Cls} {ctx:Bytes} {know others:List (List Knw)} {n1 n2:List (List (List Int))} {d1 d2:List (List Int)} (h1:(proveM s goal ctx know n1 d1).2 = 0)
  (h2:(PrSpec.explainM s goal ctx (proveM s goal ctx know n1 d1).1.1 (proveM s goal ctx know n1 d1).1.2 others).2 = false):(proveM s goal ctx others n2 d2).2 = 1 ∨ (proveM s goal ctx others n2 d2).2 = 13:=by
 have hv:=complete h1
 generalize proveM s goal ctx know n1 d1 = P at *
 unfold PrSpec.explainM at h2
 rw [hv,Bool.true_and] at h2
 unfold proveM
 cases hf:fitsM s goal others with
 | false=>left; simp
 | true=>
  cases hc:(chosenL s goal others).2 with
  | true=>rw [hf,hc] at h2; simp at h2
  | false=>
   cases goalM s goal <;> cases shapedM s goal d2 n2 <;> simp
theorem witness_law {s:Stp} {goal:List Cls} {ctx:Bytes} {know others:List (List Knw)} {n1 n2:List (List (List Int))} {d1 d2:List (List Int)}
  (h2:(PrSpec.explainM s goal ctx (proveM s goal ctx know n1 d1).1.1 (proveM s goal ctx know n1 d1).1.2 others).2 = true) (h3:(proveM s goal ctx others n2 d2).2 = 0) :
  (decide ((proveM s goal ctx others n2 d2).1.1 = (proveM s goal ctx know n1 d1).1.1) && decide ((proveM s goal ctx others n2 d2).1.2 = (proveM s goal ctx know n1 d1).1.2)) =
   (decide ((PrSpec.explainM s goal ctx (proveM s goal ctx know n1 d1).1.1 (proveM s goal ctx know n1 d1).1.2 others).1.1 = d2) && decide ((PrSpec.explainM s goal ctx (proveM s goal ctx know n1 d1).1.1 (proveM s goal ctx know n1 d1).1.2 others).1.2 = n2)):=by
 have hr:=reproved h2
 generalize proveM s goal ctx know n1 d1 = P at *
 generalize PrSpec.explainM s goal ctx P.1.1 P.1.2 others = X at *
 have h4:=equal_law (n1:=X.1.2) (d1:=X.1.1) (by rw [hr]) h3
 rw [hr] at h4
 rw [← h4]
 simp only [eq_comm]
set_option maxHeartbeats 4000000 in
theorem witness_ok' (s:Stp) (goal:List Cls) (ctx:Bytes) (know others:List (List Knw)) (n1 n2:List (List (List Int))) (d1 d2:List (List Int)) {sv gv kv ov nv1 dv1 nv2 dv2:Value} (hs:SetR w s sv) (hg:GoalR w gv goal) (hk0:KnowR w kv know) (ho0:KnowR w ov others) (hn1:NumsR w nv1 n1) (hd1:ListsR w dv1 d1) (hn2:NumsR w nv2 n2) (hd2:ListsR w dv2 d2) (hl:Cd.Laid w) (hc:ctx.length < 1000000000000000)
  (k:∀ w',Below w.heap.size w w' → K (.bool true) w'):callM Tryz.prog 5 #[stpV s sv,gv,.string ⟨ctx.toArray⟩,kv,prfV nv1 dv1,ov,prfV nv2 dv2] K w:=by
 apply sh_5_ok
 unfold sh_5
 have hs':=hs
 have hn1':=hn1
 have hn2':=hn2
 have hd1':=hd1
 have hd2':=hd2
 obtain ⟨ad,c,rfl⟩:=hs.ints.isSlice
 obtain ⟨a1,c1,rfl⟩:=hn1.isSlice
 obtain ⟨a2,c2,rfl⟩:=hd1.isSlice
 obtain ⟨a3,c3,rfl⟩:=hn2.isSlice
 obtain ⟨a4,c4,rfl⟩:=hd2.isSlice
 refine box_kn (cs:=stpC s (.slice ad s.bases.length c)) rfl (.start w) fun b1 W hk hb1 hbb=>?_
 refine box_kn (cs:=prfC (.slice a1 n1.length c1) (.slice a2 d1.length c2)) rfl hk fun b2 W hk hb2 hbb=>?_
 refine box_kn (cs:=prfC (.slice a3 n2.length c3) (.slice a4 d2.length c4)) rfl hk fun b3 W hk hb3 hbb=>?_
 clear hb1 hb2 hb3 hbb
 refine small_ok (hs'.db.next hk.below) (hl.below hk.below hl.size) (fun w1 h1=>?_)
 have hk:=hk.next h1
 repeat (any_goals ((with_reducible refine oM_gen fun Kv hK=>?_); simp [go_sem,hk.cells]; refine hK _ _ ?_; clear hK Kv))
 refine few_ok s goal ctx know (hs'.next hk.below) (hg.next (atOf_stay cls_vstay) hk.below) (hk0.next (atOf_stay knws_vstay) hk.below) hc (fun w2 q h2 hq=>?_)
 have hk:=hk.next h2
 cases q with
 | false=>
  repeat (any_goals (first
  | (with_reducible first|refine zD ?_|refine yB ?_|refine yL ?_)
  | ((with_reducible refine oM_gen fun Kv hK=>?_); simp [go_sem]; refine hK _ _ ?_; clear hK Kv)))
  exact k _ hk.below
 | true=>
 obtain ⟨hN,hctx⟩:=hq rfl
 repeat (any_goals (first
 | (with_reducible refine zC ?_)
 | ((with_reducible refine oM_gen fun Kv hK=>?_); simp [go_sem,hk.cells]; refine hK _ _ ?_; clear hK Kv)))
 refine fewNoise_ok (hd1'.next (atOf_stay ints_stay) hk.below) (hn1'.next (atOf_stay lists_vstay) hk.below) (fun w2 q h2 hq=>?_)
 have hk:=hk.next h2
 cases q with
 | false=>
  repeat (any_goals (first
  | (with_reducible first|((refine idGd ?_); first|refine zC ?_|refine zD ?_)|((refine idPick ?_); first|refine yB ?_|refine yC ?_)|refine yL ?_)
  | ((with_reducible refine oM_gen fun Kv hK=>?_); simp [go_sem]; refine hK _ _ ?_; clear hK Kv)))
  exact k _ hk.below
 | true=>
 repeat (any_goals (first
 | (with_reducible first|refine pureM_in ?_|refine zC ?_|refine yC ?_)
 | ((with_reducible refine oM_gen fun Kv hK=>?_); simp [go_sem,hk.cells]; refine hK _ _ ?_; clear hK Kv)))
 refine FewKnow_ok (ho0.next (atOf_stay knws_vstay) hk.below) (fun w2 q h2=>?_)
 have hk:=hk.next h2
 cases q with
 | false=>
  repeat (any_goals (first
  | (with_reducible first|((refine idGd ?_); first|refine zC ?_|refine zD ?_)|((refine idPick ?_); first|refine yB ?_|refine yC ?_)|refine yL ?_)
  | ((with_reducible refine oM_gen fun Kv hK=>?_); simp [go_sem]; refine hK _ _ ?_; clear hK Kv)))
  exact k _ hk.below
 | true=>
 repeat (any_goals (first
 | (with_reducible first|refine zC ?_|refine yC ?_)
 | ((with_reducible refine oM_gen fun Kv hK=>?_); simp [go_sem,hk.cells]; refine hK _ _ ?_; clear hK Kv)))
 refine fewNoise_ok (hd2'.next (atOf_stay ints_stay) hk.below) (hn2'.next (atOf_stay lists_vstay) hk.below) (fun w2 q h2 hq=>?_)
 have hk:=hk.next h2
 cases q with
 | false=>
  repeat (any_goals (first
  | (with_reducible first|refine zC ?_|refine yC ?_|refine yL ?_)
  | ((with_reducible refine oM_gen fun Kv hK=>?_); simp [go_sem]; refine hK _ _ ?_; clear hK Kv)))
  exact k _ hk.below
 | true=>
 repeat (any_goals (first
 | (with_reducible first|refine zC ?_|refine yC ?_|refine yM ?_)
 | ((with_reducible refine oM_gen fun Kv hK=>?_); simp [go_sem,hk.cells]; refine hK _ _ ?_; clear hK Kv)))
 refine Prove_ok s goal ctx know n1 d1 (hs'.next hk.below) (hg.next (atOf_stay cls_vstay) hk.below) (hk0.next (atOf_stay knws_vstay) hk.below) (hn1'.next (atOf_stay lists_vstay) hk.below) (hd1'.next (atOf_stay ints_stay) hk.below) (hl.below hk.below hl.size) hN hctx (fun w3 pv av h3 hpv hav=>?_)
 have hk:=hk.next h3
 obtain ⟨pad,pc,rfl⟩:=id hpv.isSlice
 obtain ⟨aad,ac,rfl⟩:=id hav.isSlice
 iterate 2 (any_goals ((with_reducible refine oM_gen fun Kv hK=>?_); simp [go_sem]; refine hK _ _ ?_; clear hK Kv))
 refine local_prf _ _ _ _ _ _ hk (fun b4 w4 hk h4 hg4=>?_)
 have hpv:=hpv.next (atOf_stay ints_stay) h4
 have hav:=hav.next (atOf_stay lists_vstay) h4
 by_cases e1:(proveM s goal ctx know n1 d1).2 = 0
 case neg=>
  repeat (any_goals (first
  | (with_reducible refine yL ?_)
  | ((with_reducible refine oM_gen fun Kv hK=>?_); simp [go_sem,e1]; refine hK _ _ ?_; clear hK Kv)))
  exact k _ hk.below
 repeat (any_goals (first
 | (with_reducible refine yM ?_)
 | ((with_reducible refine oM_gen fun Kv hK=>?_); simp [go_sem,hk.cells,e1]; refine hK _ _ ?_; clear hK Kv)))
 refine Explain_ok s goal ctx others _ _ (hs'.next hk.below) (hg.next (atOf_stay cls_vstay) hk.below) (ho0.next (atOf_stay knws_vstay) hk.below) hav hpv (hl.below hk.below hl.size) hN hctx (fun w7 xn xd h7 hxn hxd=>?_)
 obtain ⟨xad,xc,rfl⟩:=id hxn.isSlice
 obtain ⟨yad,yc,rfl⟩:=id hxd.isSlice
 have hk:=hk.next h7
 iterate 2 (any_goals ((with_reducible refine oM_gen fun Kv hK=>?_); simp [go_sem]; refine hK _ _ ?_; clear hK Kv))
 refine local_nse _ _ _ _ _ _ hk (fun b8 w8 hk h8 hg8=>?_)
 have h78:=h7.on h8
 have hpv:=hpv.next (atOf_stay ints_stay) h78
 have hav:=hav.next (atOf_stay lists_vstay) h78
 have hxn:=hxn.next (atOf_stay lists_vstay) h8
 have hxd:=hxd.next (atOf_stay ints_stay) h8
 repeat (any_goals ((with_reducible refine oM_gen fun Kv hK=>?_); simp [go_sem,hk.cells]; refine hK _ _ ?_; clear hK Kv))
 refine Prove_ok s goal ctx others n2 d2 (hs'.next hk.below) (hg.next (atOf_stay cls_vstay) hk.below) (ho0.next (atOf_stay knws_vstay) hk.below) (hn2'.next (atOf_stay lists_vstay) hk.below) (hd2'.next (atOf_stay ints_stay) hk.below) (hl.below hk.below hl.size) hN hctx (fun w5 pv2 av2 h5 hpv2 hav2=>?_)
 have hk:=hk.next h5
 obtain ⟨pad2,pc2,rfl⟩:=id hpv2.isSlice
 obtain ⟨aad2,ac2,rfl⟩:=id hav2.isSlice
 iterate 2 (any_goals ((with_reducible refine oM_gen fun Kv hK=>?_); simp [go_sem]; refine hK _ _ ?_; clear hK Kv))
 refine local_prf _ _ _ _ _ _ hk (fun b6 w6 hk h6 hg6=>?_)
 have h56:=h5.on h6
 have hpv:=hpv.next (atOf_stay ints_stay) h56
 have hav:=hav.next (atOf_stay lists_vstay) h56
 have hxn:=hxn.next (atOf_stay lists_vstay) h56
 have hxd:=hxd.next (atOf_stay ints_stay) h56
 have hpv2:=hpv2.next (atOf_stay ints_stay) h6
 have hav2:=hav2.next (atOf_stay lists_vstay) h6
 have hno:=witness_no (others:=others) (n2:=n2) (d2:=d2) e1
 have hlaw:=witness_law (s:=s) (goal:=goal) (ctx:=ctx) (know:=know) (others:=others) (n1:=n1) (d1:=d1) (n2:=n2) (d2:=d2)
 have hre:=reproved (s:=s) (goal:=goal) (ctx:=ctx) (know:=others) (dares:=(proveM s goal ctx know n1 d1).1.1) (answers:=(proveM s goal ctx know n1 d1).1.2)
 generalize proveM s goal ctx know n1 d1 = P at *
 generalize proveM s goal ctx others n2 d2 = Q at *
 cases hx:(PrSpec.explainM s goal ctx P.1.1 P.1.2 others).2 with
 | false=>
  rcases hno hx with e2 | e2
  ·repeat (any_goals (first
   | (with_reducible first|refine pureM_in ?_|((refine idGd ?_); first|refine zA ?_|refine zD ?_)|refine yB ?_|refine yL ?_)
   | ((with_reducible refine oM_gen fun Kv hK=>?_); simp [go_sem,e2]; refine hK _ _ ?_; clear hK Kv)))
   exact k _ hk.below
  ·repeat (any_goals (first
   | (with_reducible first|refine pureM_in ?_|((refine idGd ?_); first|refine zA ?_|refine zC ?_)|((refine idPick ?_); first|refine yB ?_|refine yC ?_)|refine yL ?_)
   | ((with_reducible refine oM_gen fun Kv hK=>?_); simp [go_sem,e2]; refine hK _ _ ?_; clear hK Kv)))
   exact k _ hk.below
 | true=>
 have hlaw:=hlaw hx
 have hre:=hre hx
 generalize PrSpec.explainM s goal ctx P.1.1 P.1.2 others = X at *
 repeat (any_goals (first
 | (with_reducible refine yM ?_)
 | ((with_reducible refine oM_gen fun Kv hK=>?_); simp [go_sem,hk.cells]; refine hK _ _ ?_; clear hK Kv)))
 refine Prove_ok s goal ctx others X.1.2 X.1.1 (hs'.next hk.below) (hg.next (atOf_stay cls_vstay) hk.below) (ho0.next (atOf_stay knws_vstay) hk.below) hxn hxd (hl.below hk.below hl.size) hN hctx (fun w9 pv3 av3 h9 hpv3 hav3=>?_)
 rw [hre] at hpv3 hav3 ⊢
 have hpv3:ListsR w9 pv3 P.1.1:=hpv3
 have hav3:NumsR w9 av3 P.1.2:=hav3
 have hk:=hk.next h9
 obtain ⟨pad3,pc3,rfl⟩:=id hpv3.isSlice
 obtain ⟨aad3,ac3,rfl⟩:=id hav3.isSlice
 iterate 2 (any_goals ((with_reducible refine oM_gen fun Kv hK=>?_); simp [go_sem]; refine hK _ _ ?_; clear hK Kv))
 refine local_prf _ _ _ _ _ _ hk (fun b10 w10 hk h10 hg10=>?_)
 have h90:=h9.on h10
 have hpv:=hpv.next (atOf_stay ints_stay) h90
 have hav:=hav.next (atOf_stay lists_vstay) h90
 have hpv2:=hpv2.next (atOf_stay ints_stay) h90
 have hav2:=hav2.next (atOf_stay lists_vstay) h90
 have hxn:=hxn.next (atOf_stay lists_vstay) h90
 have hxd:=hxd.next (atOf_stay ints_stay) h90
 repeat (any_goals (first
 | (with_reducible refine zC ?_)
 | ((with_reducible refine oM_gen fun Kv hK=>?_); simp [go_sem,hk.cells]; refine hK _ _ ?_; clear hK Kv)))
 refine SameProof_ok (hpv3.next (atOf_stay ints_stay) h10) (hav3.next (atOf_stay lists_vstay) h10) hpv hav (fun w11 h11=>?_)
 rw [decide_eq_true rfl,decide_eq_true rfl,Bool.and_self]
 have hk:=hk.next h11
 have hodr:Below w11.heap.size w11 { w11 with drawn:=w11.drawn + 1 }:=.drawn
 have hall:=h11.on hodr
 have hpv:=hpv.next (atOf_stay ints_stay) hall
 have hav:=hav.next (atOf_stay lists_vstay) hall
 have hpv2:=hpv2.next (atOf_stay ints_stay) hall
 have hav2:=hav2.next (atOf_stay lists_vstay) hall
 have hxn:=hxn.next (atOf_stay lists_vstay) hall
 have hxd:=hxd.next (atOf_stay ints_stay) hall
 have hk:=hk.next hodr
 repeat (any_goals (first
 | (with_reducible first|refine zC ?_|refine yC ?_|refine yM ?_)
 | ((with_reducible refine oM_gen fun Kv hK=>?_); simp [go_sem]; refine hK _ _ ?_; clear hK Kv)))
 unfold held_5_59
 refine ⟨Nx { w11 with drawn:=w11.drawn + 1 },Below.refl _ _,rfl,?_⟩
 have hbW:Below w.heap.size w { w11 with drawn:=w11.drawn + 1 }:=hk.below
 generalize ({ w11 with drawn:=w11.drawn + 1 }:World) = W at hk hpv hav hpv2 hav2 hxn hxd hbW ⊢
 have hn2W:=hn2'.next (atOf_stay lists_vstay) hbW
 have hd2W:=hd2'.next (atOf_stay ints_stay) hbW
 by_cases e2:Q.2 = 0
 case neg=>
  repeat (any_goals (first
  | (with_reducible first|refine pureH_in ?_|((refine idGdH ?_); refine gdH_conv fun _=>?_)|((refine idGd ?_); first|refine zA ?_|refine zD ?_))
  | ((with_reducible refine idOH ?_); (with_reducible refine oH_of ⟨_,rfl⟩ (fun W0 hW0=>by (refine oM_gen (fun Kv hK=>?_)); simp [go_sem,(hk.next hW0).cells,e2]; (first | exact hK _ _ ⟨rfl,rfl⟩ | exact ⟨by omega,hK _ _ ⟨rfl,rfl⟩⟩)) ?_))))
  refine ⟨Nx,?_⟩
  repeat (apply monoE; focus (intro w9 h9; (repeat (intro v9 e9; try (obtain rfl:=e9))); (repeat (any_goals (with_reducible refine zD ?_))); exact ⟨h9,Below.refl _ _,rfl⟩))
  (intro w9 h9; repeat (intro v9 e9; try (obtain rfl:=e9)))
  have hk:=hk.next h9
  repeat (any_goals (with_reducible first|((refine idGd ?_); first|refine zA ?_|refine zD ?_)|refine yB ?_))
  exact k _ hk.below
 have hlaw:=hlaw e2
 repeat (any_goals (first
 | (with_reducible first|refine pureH_in ?_|((refine idGdH ?_); refine gdH_conv fun _=>?_)|((refine idGd ?_); first|refine zA ?_|refine zC ?_))
 | ((with_reducible refine idOH ?_); (with_reducible refine oH_of ⟨_,rfl⟩ (fun W0 hW0=>by (refine oM_gen (fun Kv hK=>?_)); simp [go_sem,(hk.next hW0).cells,e2]; (first | exact hK _ _ ⟨rfl,rfl⟩ | exact ⟨by omega,hK _ _ ⟨rfl,rfl⟩⟩)) ?_))))
 refine ⟨Nx,?_⟩
 apply monoE
 ·(intro w9 h9; repeat (intro v9 e9; try (obtain rfl:=e9)))
  repeat (any_goals (with_reducible refine zC ?_))
  exact SameProof_ok (hpv2.next (atOf_stay ints_stay) h9) (hav2.next (atOf_stay lists_vstay) h9) (hpv.next (atOf_stay ints_stay) h9) (hav.next (atOf_stay lists_vstay) h9) (fun w2 h2=>⟨h9.on h2,h2,rfl⟩)
 (intro w9 h9; repeat (intro v9 e9; try (obtain rfl:=e9)))
 have hk:=hk.next h9
 repeat (any_goals (with_reducible refine zC ?_))
 refine SameNoise_ok (hxd.next (atOf_stay ints_stay) h9) (hxn.next (atOf_stay lists_vstay) h9) (hd2W.next (atOf_stay ints_stay) h9) (hn2W.next (atOf_stay lists_vstay) h9) (fun w13 h13=>?_)
 have hk:=hk.next h13
 rw [hlaw]
 have k:=k _ hk.below
 generalize (decide (X.1.1 = d2) && decide (X.1.2 = n2)) = q at *
 cases q with
 | false=>
  repeat (any_goals (first
  | (with_reducible first|((refine idGd ?_); first|refine zA ?_|refine zC ?_)|((refine idPick ?_); first|refine yB ?_|refine yC ?_))
  | ((with_reducible refine oM_gen fun Kv hK=>?_); simp [go_sem]; refine hK _ _ ?_; clear hK Kv)))
  exact k
 | true=>
  repeat (any_goals (first
  | (with_reducible first|((refine idGd ?_); first|refine zA ?_|refine zC ?_)|((refine idPick ?_); first|refine yB ?_|refine yC ?_))
  | ((with_reducible refine oM_gen fun Kv hK=>?_); simp [go_sem]; refine hK _ _ ?_; clear hK Kv)))
  exact k
end
end Go.Proofs
