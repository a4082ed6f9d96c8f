/- How often a claim of proofs holds is told by the rank of its matrix, for every input: the statement ProofCounts holds. -/
import Derived.Test.YtlmhhgemiknhdaaGreatDoorKnf
set_option linter.all false
set_option maxRecDepth 100000
namespace Go.Proofs
open Go Go.Sh Go.RowKit Go.Lib CodeSpec TkSpec FdSpec PrSpec Go.ChangeShapes Go.WideShapes Go.ChangeAt
set_option maxRecDepth 100000 in
theorem counts_lifted (os:Os) (started:os.Started) (H:Type) (enc:TypeId × Value → H) :
  ReturnsInHanded {} Tryz.checked os 12 .any (fun w args=>(YtlmhhgemiknhdaaGreatDoor.Rows.proofCountsSpec.pre enc Tryz.prog Tryz.f12 [] false w args ∧ laidMetH Tryz.prog laidList w) ∧ sizedMet enc Tryz.prog Tryz.f12 (OpenSpec.ofChange YtlmhhgemiknhdaaGreatDoor.Rows.proofCountsSpec) false w args)
   (YtlmhhgemiknhdaaGreatDoor.Rows.proofCountsSpec.post enc Tryz.prog Tryz.f12 false true false false):=by
 refine law_lifted_laid (C:=Tryz.checked) (tb:=4) own started (by kernel_rfl) Tryz.func12 laidOut rfl Tryz.underlying4 (by kernel_rfl) rfl (fun ds h=>by
   rw [Tryz.params12] at h
   match ds,h with
   | [d1,d2],_=>rfl)
  (ChangeSpec.witness_shaped (enc:=enc) (C:=Tryz.checked) (os:=os) (X:=fun w _=>laidMetH Tryz.prog laidList w) false (World.doorLaid Tryz.prog 400 os) #[.agg #[.int .i64 0,.int .i64 0,.int .i64 0,.slice none 0 0,.int .i64 0],.agg #[.int .i64 0,.slice none 0 0]] 8 rfl (World.shaped_of_RefB (by kernel_rfl) (by kernel_rfl)) (by kernel_rfl) (by kernel_rfl) (by kernel_rfl) (door_met os _)) ?_
 intro W base args ds p hval hA hsz hlt hL
 rw [Tryz.params12] at hA hval hsz
 have hl:=laid_of hL
 have hT:=db_of hL
 obtain ⟨v0,d0,vs,ds,p0,q0,rfl,rfl,h0,hB0,rfl⟩:=trodL_cons hA
 obtain ⟨s0,x0,rfl,hs0⟩:=open_stp hT (hval 0 26 v0 rfl rfl) h0
 obtain ⟨v1,d1,vs,ds,p1,q1,rfl,rfl,h1,hB1,rfl⟩:=trodL_cons hB0
 obtain ⟨c1,cv1,rfl,hc1⟩:=open_cla (hval 1 69 v1 rfl rfl) h1
 obtain ⟨rfl,rfl,rfl⟩:=trodL0 hB1
 exact counts_ok s0 c1 hs0 hc1 hl (fun w' hb=>⟨rfl,hb⟩)
theorem a0z {a b:Bool} (h:a = true) (k:b = true):(a && b) = true:=by rw [h,k]; rfl
set_option maxHeartbeats 4000000 in
theorem counts_holds:YtlmhhgemiknhdaaGreatDoor.Rows.ProofCountsSaid:=by
 refine OpenClaim.holds_of_wide 12 Tryz.f12 rfl rfl rfl rfl rfl rfl rfl ⟨rfl,rfl,rfl,rfl,rfl⟩ rfl rfl rfl rfl rfl (by as_aux_lemma=>kernel_rfl) Tryz.func12 ?_
  (of_decide_eq_true (by as_aux_lemma=>kernel_rfl)) (by unfold Func.isWrapper; first | (rw [if_pos (by decide +kernel)]; kernel_rfl) | (rw [if_neg (by decide +kernel)]; exact ⟨rfl,rfl⟩))
  (fun os started H enc _=>counts_lifted os started H enc)
 unfold joinedFacts
 iterate 31 (refine a0z ?_ (by as_aux_lemma=>kernel_rfl))
 as_aux_lemma=>kernel_rfl
namespace YtlmhhgemiknhdaaGreatDoor
theorem counts_card:Rows.ProofCountsCardSaid:=
 Claim7.holds_tied_plain_at .later [] [.data,.data,.data,.sentinel,.sentinel] true Rows.proofCountsCard.stood.harness true
  counts_holds (fun _ h=>by cases h) (by kernel_rfl) (fun _ h=>by cases h) proofCounts_row_tie rfl ⟨rfl,rfl⟩ (by kernel_rfl) rfl
  (fun f fn hf hfn=>by
   obtain rfl:f = 12:=Option.some.inj ((show Tryz.prog.funcNamed Tryz.f12.name = some 12 by kernel_rfl).symm.trans hf) |>.symm
   obtain rfl:fn = Tryz.f12:=(Option.some.inj (Tryz.func12.symm.trans hfn)).symm
   exact ⟨by kernel_rfl,fun j t ht=>by
    rw [Tryz.params12] at ht
    have hm:t ∈ [26,69]:=by simpa using Array.mem_of_getElem? ht
    have hall:([26,69].all fun u=>!Tryz.prog.wantsStandIn u) = true:=by kernel_rfl
    exact (show Tryz.prog.wantsStandIn t = false by simpa using List.all_eq_true.1 hall t hm)⟩)
  (by kernel_rfl)
#print axioms counts_card
end YtlmhhgemiknhdaaGreatDoor
end Go.Proofs
