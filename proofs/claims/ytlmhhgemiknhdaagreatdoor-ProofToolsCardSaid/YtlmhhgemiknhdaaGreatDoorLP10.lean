/- For all setups, mirrors, claims, lists of at most 70 numbers, numbers, strings of at most 200 bytes and proofs, valid or not: Make, Mirrors, Commit, Holds, Simulate, Extract, Weigh, Bits, Range, Split, Rest, Sign, Signed, Encode and Decode return what the reference returns. No further condition. -/
import Derived.Test.YtlmhhgemiknhdaaGreatDoorPtof
set_option linter.all false
set_option maxRecDepth 100000
namespace Go.Proofs
open Go Go.Sh Go.RowKit Go.Lib CodeSpec TkSpec FdSpec PrSpec Go.ChangeShapes Go.WideShapes Go.ChangeAt
set_option maxRecDepth 100000 in
theorem tools_lifted (os:Os) (started:os.Started) (H:Type) (enc:TypeId × Value → H) :
  ReturnsInHanded {} Tryz.checked os 11 .any (fun w args=>(YtlmhhgemiknhdaaGreatDoor.Rows.proofToolsSpec.pre enc Tryz.prog Tryz.f11 [] false w args ∧ laidMetH Tryz.prog laidList w) ∧ sizedMet enc Tryz.prog Tryz.f11 (OpenSpec.ofChange YtlmhhgemiknhdaaGreatDoor.Rows.proofToolsSpec) false w args)
   (YtlmhhgemiknhdaaGreatDoor.Rows.proofToolsSpec.post enc Tryz.prog Tryz.f11 false true false false):=by
 refine law_lifted_laid (C:=Tryz.checked) (tb:=4) own started (by kernel_rfl) Tryz.func11 laidOut rfl Tryz.underlying4 (by kernel_rfl) rfl (fun ds h=>by
   rw [Tryz.params11] at h
   match ds,h with
   | [d1,d2,d3,d4,d5,d6,d7,d8,d9,d10,d11],_=>rfl)
  (ChangeSpec.witness_shaped (enc:=enc) (C:=Tryz.checked) (os:=os) (X:=fun w _=>laidMetH Tryz.prog laidList w) false (World.doorLaid Tryz.prog 400 os) #[.agg #[.int .i64 0,.int .i64 0,.int .i64 0,.slice none 0 0,.int .i64 0],.agg #[.slice none 0 0,.int .i64 0],.agg #[.int .i64 0,.slice none 0 0],.slice none 0 0,.slice none 0 0,.slice none 0 0,.int .i64 0,.int .i64 0,.string ByteArray.empty,.agg #[.int .i64 0,.int .i64 0],.agg #[.slice none 0 0,.slice none 0 0]] 8 rfl (World.shaped_of_RefB (by kernel_rfl) (by kernel_rfl)) (by kernel_rfl) (by kernel_rfl) (by kernel_rfl) (door_met os _)) ?_
 intro W base args ds p hval hA hsz hlt hL
 rw [Tryz.params11] at hA hval hsz
 have hl:=laid_of hL
 have hT:=db_of hL
 obtain ⟨v0,d0,vs,ds,p0,q0,rfl,rfl,h0,hB0,rfl⟩:=trodL_cons hA
 obtain ⟨s0,x0,rfl,hs0⟩:=open_stp hT (hval 0 26 v0 rfl rfl) h0
 obtain ⟨v1,d1,vs,ds,p1,q1,rfl,rfl,h1,hB1,rfl⟩:=trodL_cons hB0
 obtain ⟨m1,mv1,rfl,hm1⟩:=open_mir (hval 1 88 v1 rfl rfl) h1
 obtain ⟨v2,d2,vs,ds,p2,q2,rfl,rfl,h2,hB2,rfl⟩:=trodL_cons hB1
 obtain ⟨c2,cv2,rfl,hc2⟩:=open_cla (hval 2 69 v2 rfl rfl) h2
 obtain ⟨v3,d3,vs,ds,p3,q3,rfl,rfl,h3,hB3,rfl⟩:=trodL_cons hB2
 obtain ⟨l3,hs3⟩:=open_list (hval 3 24 v3 rfl rfl) h3
 obtain ⟨v4,d4,vs,ds,p4,q4,rfl,rfl,h4,hB4,rfl⟩:=trodL_cons hB3
 obtain ⟨l4,hs4⟩:=open_list (hval 4 24 v4 rfl rfl) h4
 obtain ⟨v5,d5,vs,ds,p5,q5,rfl,rfl,h5,hB5,rfl⟩:=trodL_cons hB4
 obtain ⟨l5,hs5⟩:=open_list (hval 5 24 v5 rfl rfl) h5
 obtain ⟨v6,d6,vs,ds,p6,q6,rfl,rfl,h6,hB6,rfl⟩:=trodL_cons hB5
 obtain ⟨n6,rfl,rfl,rfl,wn6⟩:=open_int Tryz.underlying3 (hval 6 3 v6 rfl rfl) h6
 obtain ⟨v7,d7,vs,ds,p7,q7,rfl,rfl,h7,hB7,rfl⟩:=trodL_cons hB6
 obtain ⟨n7,rfl,rfl,rfl,wn7⟩:=open_int Tryz.underlying3 (hval 7 3 v7 rfl rfl) h7
 obtain ⟨v8,d8,vs,ds,p8,q8,rfl,rfl,h8,hB8,rfl⟩:=trodL_cons hB7
 obtain ⟨s8,rfl,rfl,rfl,ws8⟩:=ChangeMaps.open_string Tryz.underlying9 (hval 8 9 v8 rfl rfl) h8
 obtain ⟨v9,d9,vs,ds,p9,q9,rfl,rfl,h9,hB9,rfl⟩:=trodL_cons hB8
 obtain ⟨c9,z9,rfl,hc9,hz9⟩:=open_sig (hval 9 74 v9 rfl rfl) h9
 obtain ⟨v10,d10,vs,ds,p10,q10,rfl,rfl,h10,hB10,rfl⟩:=trodL_cons hB9
 obtain ⟨dv10,av10,dx10,al10,rfl,hd10,ha10⟩:=open_prf (hval 10 34 v10 rfl rfl) h10
 obtain ⟨rfl,rfl,rfl⟩:=trodL0 hB10
 have r8:s8.size ≤ 140737488351232:=by
  have:=sized_string hsz (j:=8) (t:=9) rfl rfl
  simpa [reachBytes] using this
 rw [ba_of1 s8]
 exact tools_ok s0 m1 c2 l3 l4 l5 n6 n7 _ c9 z9 dx10 al10 hs0 hm1 hc2 hs3 hs4 hs5 (intR wn6) (intR wn7) hd10 ha10 hl (by rw [ba_len]; omega) (fun w' hb=>⟨rfl,hb⟩)
theorem a0z {a b:Bool} (h:a = true) (k:b = true):(a && b) = true:=by rw [h,k]; rfl
set_option maxHeartbeats 4000000 in
theorem tools_holds:YtlmhhgemiknhdaaGreatDoor.Rows.ProofToolsSaid:=by
 refine OpenClaim.holds_of_wide 11 Tryz.f11 rfl rfl rfl rfl rfl rfl rfl ⟨rfl,rfl,rfl,rfl,rfl⟩ rfl rfl rfl rfl rfl (by as_aux_lemma=>kernel_rfl) Tryz.func11 ?_
  (of_decide_eq_true (by as_aux_lemma=>kernel_rfl)) (by unfold Func.isWrapper; first | (rw [if_pos (by decide +kernel)]; kernel_rfl) | (rw [if_neg (by decide +kernel)]; exact ⟨rfl,rfl⟩))
  (fun os started H enc _=>tools_lifted os started H enc)
 unfold joinedFacts
 iterate 31 (refine a0z ?_ (by as_aux_lemma=>kernel_rfl))
 as_aux_lemma=>kernel_rfl
namespace YtlmhhgemiknhdaaGreatDoor
theorem tools_card:Rows.ProofToolsCardSaid:=
 Claim7.holds_tied_plain_at .later [] [.data,.data,.data,.sentinel,.sentinel] true Rows.proofToolsCard.stood.harness true
  tools_holds (fun _ h=>by cases h) (by kernel_rfl) (fun _ h=>by cases h) proofTools_row_tie rfl ⟨rfl,rfl⟩ (by kernel_rfl) rfl
  (fun f fn hf hfn=>by
   obtain rfl:f = 11:=oI ((show Tryz.prog.funcNamed Tryz.f11.name = some 11 by kernel_rfl).symm.trans hf) |>.symm
   obtain rfl:fn = Tryz.f11:=(oI (Tryz.func11.symm.trans hfn)).symm
   exact ⟨by kernel_rfl,fun j t ht=>by
    rw [Tryz.params11] at ht
    have hm:t ∈ [26,88,69,24,24,24,3,3,9,74,34]:=by simpa using Array.mem_of_getElem? ht
    have hall:([26,88,69,24,24,24,3,3,9,74,34].all fun u=>!Tryz.prog.wantsStandIn u) = true:=by kernel_rfl
    exact (show Tryz.prog.wantsStandIn t = false by simpa using List.all_eq_true.1 hall t hm)⟩)
  (by kernel_rfl)
#print axioms tools_card
end YtlmhhgemiknhdaaGreatDoor
end Go.Proofs
