/- ProofRanges, tied card: for all valid setups, numbers, blindings (1 to 12 exponents) and contexts, the proof of a range made of what Split and Rest return is accepted. No condition. -/
import Derived.Test.YtlmhhgemiknhdaaGreatDoorPrf
set_option linter.all false
set_option maxRecDepth 100000
namespace Go.Proofs
open Go Go.Sh Go.RowKit Go.Lib CodeSpec TkSpec FdSpec PrSpec Go.ChangeShapes Go.WideShapes Go.ChangeAt
set_option maxRecDepth 100000 in
theorem ranges_lifted (os:Os) (started:os.Started) (H:Type) (enc:TypeId × Value → H) :
  ReturnsInHanded {} Tryz.checked os 13 .any (fun w args=>(YtlmhhgemiknhdaaGreatDoor.Rows.proofRangesSpec.pre enc Tryz.prog Tryz.f13 [] false w args ∧ laidMetH Tryz.prog laidList w) ∧ sizedMet enc Tryz.prog Tryz.f13 (OpenSpec.ofChange YtlmhhgemiknhdaaGreatDoor.Rows.proofRangesSpec) false w args)
   (YtlmhhgemiknhdaaGreatDoor.Rows.proofRangesSpec.post enc Tryz.prog Tryz.f13 false true false false):=by
 refine law_lifted_laid (C:=Tryz.checked) (tb:=4) own started (by kernel_rfl) Tryz.func13 laidOut rfl Tryz.underlying4 (by kernel_rfl) rfl (fun ds h=>by
   rw [Tryz.params13] at h
   match ds,h with
   | [d1,d2,d3,d4,d5],_=>rfl)
  (ChangeSpec.witness_shaped (enc:=enc) (C:=Tryz.checked) (os:=os) (X:=fun w _=>laidMetH Tryz.prog laidList w) false (World.doorLaid Tryz.prog 400 os) #[.agg #[.int .i64 0,.int .i64 0,.int .i64 0,.slice none 0 0,.int .i64 0],.int .i64 0,.int .i64 0,.slice none 0 0,.string ByteArray.empty] 8 rfl (World.shaped_of_RefB (by kernel_rfl) (by kernel_rfl)) (by kernel_rfl) (by kernel_rfl) (by kernel_rfl) (door_met os _)) ?_
 intro W base args ds p hval hA hsz hlt hL
 rw [Tryz.params13] at hA hval hsz
 have hl:=laid_of hL
 have hT:=db_of hL
 obtain ⟨v0,d0,vs,ds,p0,q0,rfl,rfl,h0,hB0,rfl⟩:=trodL_cons hA
 obtain ⟨s0,x0,rfl,hs0⟩:=open_stp hT (hval 0 26 v0 rfl rfl) h0
 obtain ⟨v1,d1,vs,ds,p1,q1,rfl,rfl,h1,hB1,rfl⟩:=trodL_cons hB0
 obtain ⟨n1,rfl,rfl,rfl,wn1⟩:=open_int Tryz.underlying3 (hval 1 3 v1 rfl rfl) h1
 obtain ⟨v2,d2,vs,ds,p2,q2,rfl,rfl,h2,hB2,rfl⟩:=trodL_cons hB1
 obtain ⟨n2,rfl,rfl,rfl,wn2⟩:=open_int Tryz.underlying3 (hval 2 3 v2 rfl rfl) h2
 obtain ⟨v3,d3,vs,ds,p3,q3,rfl,rfl,h3,hB3,rfl⟩:=trodL_cons hB2
 obtain ⟨l3,hs3⟩:=open_list (hval 3 24 v3 rfl rfl) h3
 obtain ⟨v4,d4,vs,ds,p4,q4,rfl,rfl,h4,hB4,rfl⟩:=trodL_cons hB3
 obtain ⟨s4,rfl,rfl,rfl,ws4⟩:=ChangeMaps.open_string Tryz.underlying9 (hval 4 9 v4 rfl rfl) h4
 obtain ⟨rfl,rfl,rfl⟩:=trodL0 hB4
 have r4:s4.size ≤ 140737488351232:=by
  have:=sized_string hsz (j:=4) (t:=9) rfl rfl
  simpa [reachBytes] using this
 rw [ba_of1 s4]
 exact ranges_ok s0 n1 n2 l3 _ hs0 (intR wn1) (intR wn2) hs3 hl (by rw [ba_len]; omega) (fun w' hb=>⟨rfl,hb⟩)
theorem ranges_holds:YtlmhhgemiknhdaaGreatDoor.Rows.ProofRangesSaid:=
 OpenClaim.holds_of_wide 13 Tryz.f13 rfl rfl rfl rfl rfl rfl rfl ⟨rfl,rfl,rfl,rfl,rfl⟩ rfl rfl rfl rfl rfl (by kernel_rfl) Tryz.func13 (by kernel_rfl)
  (of_decide_eq_true (by kernel_rfl)) (by unfold Func.isWrapper; first | (rw [if_pos (by decide +kernel)]; kernel_rfl) | (rw [if_neg (by decide +kernel)]; exact ⟨rfl,rfl⟩))
  (fun os started H enc _=>ranges_lifted os started H enc)
namespace YtlmhhgemiknhdaaGreatDoor
theorem ranges_card:Rows.ProofRangesCardSaid:=
 Claim7.holds_tied_plain_at .later [] [.data,.data,.data,.sentinel,.sentinel] true Rows.proofRangesCard.stood.harness true
  ranges_holds (fun _ h=>by cases h) (by kernel_rfl) (fun _ h=>by cases h) proofRanges_row_tie rfl ⟨rfl,rfl⟩ (by kernel_rfl) rfl
  (fun f fn hf hfn=>by
   obtain rfl:f = 13:=Option.some.inj ((show Tryz.prog.funcNamed Tryz.f13.name = some 13 by kernel_rfl).symm.trans hf) |>.symm
   obtain rfl:fn = Tryz.f13:=(Option.some.inj (Tryz.func13.symm.trans hfn)).symm
   exact ⟨by kernel_rfl,fun j t ht=>by
    rw [Tryz.params13] at ht
    have hm:t ∈ [26,3,3,24,9]:=by simpa using Array.mem_of_getElem? ht
    have hall:([26,3,3,24,9].all fun u=>!Tryz.prog.wantsStandIn u) = true:=by kernel_rfl
    exact (show Tryz.prog.wantsStandIn t = false by simpa using List.all_eq_true.1 hall t hm)⟩)
  (by kernel_rfl)
#print axioms ranges_card
end YtlmhhgemiknhdaaGreatDoor
end Go.Proofs
