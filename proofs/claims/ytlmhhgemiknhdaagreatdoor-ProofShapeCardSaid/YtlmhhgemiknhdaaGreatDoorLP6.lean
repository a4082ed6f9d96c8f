/- ProofShape, tied card: for all valid goals, contexts, knowledge and noise (few, fewNoise) for which Prove returns a proof, a proof with one number moved by Q or a longer list is not accepted. No condition. -/
import Derived.Test.YtlmhhgemiknhdaaGreatDoorPsg
set_option linter.all false
set_option maxRecDepth 100000
namespace Go.Proofs
open Go Go.Sh Go.RowKit Go.Lib CodeSpec TkSpec FdSpec PrSpec Go.ChangeShapes Go.WideShapes Go.ChangeAt
set_option maxRecDepth 100000 in
theorem shape_lifted (os:Os) (started:os.Started) (H:Type) (enc:TypeId × Value → H) :
  ReturnsInHanded {} Tryz.checked os 7 .any (fun w args=>(YtlmhhgemiknhdaaGreatDoor.Rows.proofShapeSpec.pre enc Tryz.prog Tryz.f7 [] false w args ∧ laidMetH Tryz.prog laidList w) ∧ sizedMet enc Tryz.prog Tryz.f7 (OpenSpec.ofChange YtlmhhgemiknhdaaGreatDoor.Rows.proofShapeSpec) false w args)
   (YtlmhhgemiknhdaaGreatDoor.Rows.proofShapeSpec.post enc Tryz.prog Tryz.f7 false true false false):=by
 refine law_lifted_laid (C:=Tryz.checked) (tb:=4) own started (by kernel_rfl) Tryz.func7 laidOut rfl Tryz.underlying4 (by kernel_rfl) rfl (fun ds h=>by
   rw [Tryz.params7] at h
   match ds,h with
   | [d1,d2,d3,d4,d5,d6,d7,d8,d9],_=>rfl)
  (ChangeSpec.witness_shaped (enc:=enc) (C:=Tryz.checked) (os:=os) (X:=fun w _=>laidMetH Tryz.prog laidList w) false (World.doorLaid Tryz.prog 400 os) #[.agg #[.int .i64 0,.int .i64 0,.int .i64 0,.slice none 0 0,.int .i64 0],.slice none 0 0,.string ByteArray.empty,.slice none 0 0,.agg #[.slice none 0 0,.slice none 0 0],.int .u8 0,.int .u8 0,.int .u8 0,.bool false] 8 rfl (World.shaped_of_RefB (by kernel_rfl) (by kernel_rfl)) (by kernel_rfl) (by kernel_rfl) (by kernel_rfl) (door_met os _)) ?_
 intro W base args ds p hval hA hsz hlt hL
 rw [Tryz.params7] at hA hval hsz
 have hl:=laid_of hL
 have hT:=db_of hL
 obtain ⟨v0,d0,vs,ds,p0,q0,rfl,rfl,h0,hB0,rfl⟩:=trodL_cons hA
 obtain ⟨s0,x0,rfl,hs0⟩:=open_stp hT (hval 0 26 v0 rfl rfl) h0
 obtain ⟨v1,d1,vs,ds,p1,q1,rfl,rfl,h1,hB1,rfl⟩:=trodL_cons hB0
 obtain ⟨l1,hg1⟩:=open_goal (hval 1 27 v1 rfl rfl) h1
 obtain ⟨v2,d2,vs,ds,p2,q2,rfl,rfl,h2,hB2,rfl⟩:=trodL_cons hB1
 obtain ⟨s2,rfl,rfl,rfl,ws2⟩:=ChangeMaps.open_string Tryz.underlying9 (hval 2 9 v2 rfl rfl) h2
 obtain ⟨v3,d3,vs,ds,p3,q3,rfl,rfl,h3,hB3,rfl⟩:=trodL_cons hB2
 obtain ⟨l3,hk3⟩:=open_know (hval 3 28 v3 rfl rfl) h3
 obtain ⟨v4,d4,vs,ds,p4,q4,rfl,rfl,h4,hB4,rfl⟩:=trodL_cons hB3
 obtain ⟨nv4,dv4,nl4,dl4,rfl,hn4,hd4⟩:=open_nse (hval 4 32 v4 rfl rfl) h4
 obtain ⟨v5,d5,vs,ds,p5,q5,rfl,rfl,h5,hB5,rfl⟩:=trodL_cons hB4
 obtain ⟨n5,rfl,rfl,rfl,wn5⟩:=open_int Tryz.underlying5 (hval 5 5 v5 rfl rfl) h5
 obtain ⟨v6,d6,vs,ds,p6,q6,rfl,rfl,h6,hB6,rfl⟩:=trodL_cons hB5
 obtain ⟨n6,rfl,rfl,rfl,wn6⟩:=open_int Tryz.underlying5 (hval 6 5 v6 rfl rfl) h6
 obtain ⟨v7,d7,vs,ds,p7,q7,rfl,rfl,h7,hB7,rfl⟩:=trodL_cons hB6
 obtain ⟨n7,rfl,rfl,rfl,wn7⟩:=open_int Tryz.underlying5 (hval 7 5 v7 rfl rfl) h7
 obtain ⟨v8,d8,vs,ds,p8,q8,rfl,rfl,h8,hB8,rfl⟩:=trodL_cons hB7
 obtain ⟨q8,rfl,rfl,rfl⟩:=open_bool Tryz.underlying4 (hval 8 4 v8 rfl rfl) h8
 obtain ⟨rfl,rfl,rfl⟩:=trodL0 hB8
 have r2:s2.size ≤ 140737488351232:=by
  have:=sized_string hsz (j:=2) (t:=9) rfl rfl
  simpa [reachBytes] using this
 rw [ba_of1 s2]
 exact shape_ok s0 l1 _ l3 nl4 dl4 n5 n6 n7 q8 hs0 hg1 hk3 hn4 hd4 hl (by rw [ba_len]; omega) (u8R wn5) (u8R wn6) (u8R wn7) (fun w' hb=>⟨rfl,hb⟩)
theorem shape_holds:YtlmhhgemiknhdaaGreatDoor.Rows.ProofShapeSaid:=
 OpenClaim.holds_of_wide 7 Tryz.f7 rfl rfl rfl rfl rfl rfl rfl ⟨rfl,rfl,rfl,rfl,rfl⟩ rfl rfl rfl rfl rfl (by kernel_rfl) Tryz.func7 (by kernel_rfl)
  (of_decide_eq_true (by kernel_rfl)) (by unfold Func.isWrapper; first | (rw [if_pos (by decide +kernel)]; kernel_rfl) | (rw [if_neg (by decide +kernel)]; exact ⟨rfl,rfl⟩))
  (fun os started H enc _=>shape_lifted os started H enc)
namespace YtlmhhgemiknhdaaGreatDoor
theorem shape_card:Rows.ProofShapeCardSaid:=
 Claim7.holds_tied_plain_at .later [] [.data,.data,.data] true Rows.proofShapeCard.stood.harness true
  shape_holds (fun _ h=>by cases h) (by kernel_rfl) (fun _ h=>by cases h) proofShape_row_tie rfl ⟨rfl,rfl⟩ (by kernel_rfl) rfl
  (fun f fn hf hfn=>by
   obtain rfl:f = 7:=Option.some.inj ((show Tryz.prog.funcNamed Tryz.f7.name = some 7 by kernel_rfl).symm.trans hf) |>.symm
   obtain rfl:fn = Tryz.f7:=(Option.some.inj (Tryz.func7.symm.trans hfn)).symm
   exact ⟨by kernel_rfl,fun j t ht=>by
    rw [Tryz.params7] at ht
    have hm:t ∈ [26,27,9,28,32,5,5,5,4]:=by simpa using Array.mem_of_getElem? ht
    have hall:([26,27,9,28,32,5,5,5,4].all fun u=>!Tryz.prog.wantsStandIn u) = true:=by kernel_rfl
    exact (show Tryz.prog.wantsStandIn t = false by simpa using List.all_eq_true.1 hall t hm)⟩)
  (by kernel_rfl)
#print axioms shape_card
end YtlmhhgemiknhdaaGreatDoor
end Go.Proofs
