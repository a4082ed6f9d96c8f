/- For all setups, goals, contexts, knowledge and noise, the law ProofComplete returns true and never panics; no condition. -/
import Derived.Test.YtlmhhgemiknhdaaGreatDoorPcf
set_option linter.all false
set_option maxRecDepth 100000
namespace Go.Proofs
open Go Go.Sh Go.RowKit Go.Lib CodeSpec TkSpec FdSpec PrSpec Go.ChangeShapes Go.WideShapes Go.ChangeAt
set_option maxRecDepth 100000 in
theorem complete_lifted (os:Os) (started:os.Started) (H:Type) (enc:TypeId × Value → H) :
  ReturnsInHanded {} Tryz.checked os 4 .any (fun w args=>(YtlmhhgemiknhdaaGreatDoor.Rows.proofCompleteSpec.pre enc Tryz.prog Tryz.f4 [] false w args ∧ laidMetH Tryz.prog laidList w) ∧ sizedMet enc Tryz.prog Tryz.f4 (OpenSpec.ofChange YtlmhhgemiknhdaaGreatDoor.Rows.proofCompleteSpec) false w args)
   (YtlmhhgemiknhdaaGreatDoor.Rows.proofCompleteSpec.post enc Tryz.prog Tryz.f4 false true false false):=by
 refine law_lifted_laid (C:=Tryz.checked) (tb:=4) own started (by kernel_rfl) Tryz.func4 laidOut rfl Tryz.underlying4 (by kernel_rfl) rfl (fun ds h=>by
   rw [Tryz.params4] at h
   match ds,h with
   | [d1,d2,d3,d4,d5],_=>rfl)
  (ChangeSpec.witness_shaped (enc:=enc) (C:=Tryz.checked) (os:=os) (X:=fun w _=>laidMetH Tryz.prog laidList w) false (World.doorLaid Tryz.prog 400 os) #[.agg #[.int .i64 0,.int .i64 0,.int .i64 0,.slice none 0 0,.int .i64 0],.slice none 0 0,.string ByteArray.empty,.slice none 0 0,.agg #[.slice none 0 0,.slice none 0 0]] 8 rfl (World.shaped_of_RefB (by kernel_rfl) (by kernel_rfl)) (by kernel_rfl) (by kernel_rfl) (by kernel_rfl) (door_met os _)) ?_
 intro W base args ds p hval hA hsz hlt hL
 rw [Tryz.params4] at hA hval hsz
 have hl:=laid_of hL
 have hT:=db_of hL
 obtain ⟨v0,d0,vs,ds,p0,q0,rfl,rfl,h0,hB0,rfl⟩:=trodL_cons hA
 obtain ⟨s0,x0,rfl,hs0⟩:=open_stp hT (hval 0 26 v0 rfl rfl) h0
 obtain ⟨v1,d1,vs,ds,p1,q1,rfl,rfl,h1,hB1,rfl⟩:=trodL_cons hB0
 obtain ⟨l1,hg1⟩:=open_goal (hval 1 27 v1 rfl rfl) h1
 obtain ⟨v2,d2,vs,ds,p2,q2,rfl,rfl,h2,hB2,rfl⟩:=trodL_cons hB1
 obtain ⟨s2,rfl,rfl,rfl,ws2⟩:=ChangeMaps.open_string Tryz.underlying9 (hval 2 9 v2 rfl rfl) h2
 obtain ⟨v3,d3,vs,ds,p3,q3,rfl,rfl,h3,hB3,rfl⟩:=trodL_cons hB2
 obtain ⟨l3,hk3⟩:=open_know (hval 3 28 v3 rfl rfl) h3
 obtain ⟨v4,d4,vs,ds,p4,q4,rfl,rfl,h4,hB4,rfl⟩:=trodL_cons hB3
 obtain ⟨nv4,dv4,nl4,dl4,rfl,hn4,hd4⟩:=open_nse (hval 4 32 v4 rfl rfl) h4
 obtain ⟨rfl,rfl,rfl⟩:=trodL0 hB4
 have r2:s2.size ≤ 140737488351232:=by
  have:=sized_string hsz (j:=2) (t:=9) rfl rfl
  simpa [reachBytes] using this
 rw [ba_of1 s2]
 exact complete_ok s0 l1 _ l3 nl4 dl4 hs0 hg1 hk3 hn4 hd4 hl (by rw [ba_len]; omega) (fun w' hb=>⟨rfl,hb⟩)
theorem complete_holds:YtlmhhgemiknhdaaGreatDoor.Rows.ProofCompleteSaid:=
 OpenClaim.holds_of_wide 4 Tryz.f4 rfl rfl rfl rfl rfl rfl rfl ⟨rfl,rfl,rfl,rfl,rfl⟩ rfl rfl rfl rfl rfl (by kernel_rfl) Tryz.func4 (by kernel_rfl)
  (of_decide_eq_true (by kernel_rfl)) (by unfold Func.isWrapper; first | (rw [if_pos (by decide +kernel)]; kernel_rfl) | (rw [if_neg (by decide +kernel)]; exact ⟨rfl,rfl⟩))
  (fun os started H enc _=>complete_lifted os started H enc)
namespace YtlmhhgemiknhdaaGreatDoor
theorem complete_card:Rows.ProofCompleteCardSaid:=
 Claim7.holds_tied_plain_at .later [] [.data,.data,.data] true Rows.proofCompleteCard.stood.harness true
  complete_holds (fun _ h=>by cases h) (by kernel_rfl) (fun _ h=>by cases h) proofComplete_row_tie rfl ⟨rfl,rfl⟩ (by kernel_rfl) rfl
  (fun f fn hf hfn=>by
   obtain rfl:f = 4:=oI ((show Tryz.prog.funcNamed Tryz.f4.name = some 4 by kernel_rfl).symm.trans hf) |>.symm
   obtain rfl:fn = Tryz.f4:=(oI (Tryz.func4.symm.trans hfn)).symm
   exact ⟨by kernel_rfl,fun j t ht=>by
    rw [Tryz.params4] at ht
    have hm:t ∈ [26,27,9,28,32]:=by simpa using Array.mem_of_getElem? ht
    have hall:([26,27,9,28,32].all fun u=>!Tryz.prog.wantsStandIn u) = true:=by kernel_rfl
    exact (show Tryz.prog.wantsStandIn t = false by simpa using List.all_eq_true.1 hall t hm)⟩)
  (by kernel_rfl)
#print axioms complete_card
end YtlmhhgemiknhdaaGreatDoor
end Go.Proofs
