/- For all setups, goals, contexts, knowledge, noise and proofs, valid or not, within the bounds few, fewNoise and fewProof: ValidSetup, ValidGoal, Text, Prove, Verify and Explain return what the reference returns. No further condition. -/
import Derived.Test.YtlmhhgemiknhdaaGreatDoorPtlg
set_option linter.all false
set_option maxRecDepth 100000
namespace Go.Proofs
open Go Go.Sh Go.RowKit Go.Lib CodeSpec TkSpec FdSpec PrSpec Go.ChangeShapes Go.WideShapes Go.ChangeAt
set_option maxRecDepth 100000 in
theorem tells_lifted (os:Os) (started:os.Started) (H:Type) (enc:TypeId × Value → H) :
  ReturnsInHanded {} Tryz.checked os 3 .any (fun w args=>(YtlmhhgemiknhdaaGreatDoor.Rows.proofTellsSpec.pre enc Tryz.prog Tryz.f3 [] false w args ∧ laidMetH Tryz.prog laidList w) ∧ sizedMet enc Tryz.prog Tryz.f3 (OpenSpec.ofChange YtlmhhgemiknhdaaGreatDoor.Rows.proofTellsSpec) false w args)
   (YtlmhhgemiknhdaaGreatDoor.Rows.proofTellsSpec.post enc Tryz.prog Tryz.f3 false true false false):=by
 refine b8a (C:=Tryz.checked) (tb:=4) own started (by kernel_rfl) Tryz.func3 f5n rfl Tryz.underlying4 (by kernel_rfl) rfl (fun ds h=>by
   rw [Tryz.params3] at h
   match ds,h with
   | [d1,d2,d3,d4,d5,d6],_=>rfl)
  (ChangeSpec.witness_shaped (enc:=enc) (C:=Tryz.checked) (os:=os) (X:=fun w _=>laidMetH Tryz.prog laidList w) false (World.doorLaid Tryz.prog 400 os) #[.agg #[.int .i64 0,.int .i64 0,.int .i64 0,.slice none 0 0,.int .i64 0],.slice none 0 0,.string ByteArray.empty,.slice none 0 0,.agg #[.slice none 0 0,.slice none 0 0],.agg #[.slice none 0 0,.slice none 0 0]] 8 rfl (World.shaped_of_RefB (by kernel_rfl) (by kernel_rfl)) (by kernel_rfl) (by kernel_rfl) (by kernel_rfl) (e6l os _)) ?_
 intro W base args ds p hval hA hsz hlt hL
 rw [Tryz.params3] at hA hval hsz
 have hl:=f5m hL
 have hT:=g4n hL
 obtain ⟨v0,d0,vs,ds,p0,q0,rfl,rfl,h0,hB0,rfl⟩:=a6k hA
 obtain ⟨s0,x0,rfl,hs0⟩:=e6n hT (hval 0 26 v0 rfl rfl) h0
 obtain ⟨v1,d1,vs,ds,p1,q1,rfl,rfl,h1,hB1,rfl⟩:=a6k hB0
 obtain ⟨l1,hg1⟩:=d9r (hval 1 27 v1 rfl rfl) h1
 obtain ⟨v2,d2,vs,ds,p2,q2,rfl,rfl,h2,hB2,rfl⟩:=a6k hB1
 obtain ⟨s2,rfl,rfl,rfl,ws2⟩:=ChangeMaps.open_string Tryz.underlying9 (hval 2 9 v2 rfl rfl) h2
 obtain ⟨v3,d3,vs,ds,p3,q3,rfl,rfl,h3,hB3,rfl⟩:=a6k hB2
 obtain ⟨l3,hk3⟩:=d9t (hval 3 28 v3 rfl rfl) h3
 obtain ⟨v4,d4,vs,ds,p4,q4,rfl,rfl,h4,hB4,rfl⟩:=a6k hB3
 obtain ⟨nv4,dv4,nl4,dl4,rfl,hn4,hd4⟩:=e6i (hval 4 32 v4 rfl rfl) h4
 obtain ⟨v5,d5,vs,ds,p5,q5,rfl,rfl,h5,hB5,rfl⟩:=a6k hB4
 obtain ⟨dv5,av5,dx5,al5,rfl,hd5,ha5⟩:=e6h (hval 5 34 v5 rfl rfl) h5
 obtain ⟨rfl,rfl,rfl⟩:=g0t hB5
 have r2:s2.size ≤ 140737488351232:=by
  have:=sized_string hsz (j:=2) (t:=9) rfl rfl
  simpa [reachBytes] using this
 rw [g0x s2]
 exact e5x s0 l1 _ l3 nl4 al5 dl4 dx5 hs0 hg1 hk3 hn4 hd4 hd5 ha5 hl (by rw [g0y]; omega) (fun w' hb=>⟨rfl,hb⟩)
theorem a0z {a b:Bool} (h:a = true) (k:b = true):(a && b) = true:=by rw [h,k]; rfl
set_option maxHeartbeats 4000000 in
theorem c8b:YtlmhhgemiknhdaaGreatDoor.Rows.ProofTellsSaid:=by
 refine OpenClaim.holds_of_wide 3 Tryz.f3 rfl rfl rfl rfl rfl rfl rfl ⟨rfl,rfl,rfl,rfl,rfl⟩ rfl rfl rfl rfl rfl (by as_aux_lemma=>kernel_rfl) Tryz.func3 ?_
  (of_decide_eq_true (by as_aux_lemma=>kernel_rfl)) (by unfold Func.isWrapper; first | (rw [if_pos (by decide +kernel)]; kernel_rfl) | (rw [if_neg (by decide +kernel)]; exact ⟨rfl,rfl⟩))
  (fun os started H enc _=>tells_lifted os started H enc)
 unfold joinedFacts
 iterate 31 (refine a0z ?_ (by as_aux_lemma=>kernel_rfl))
 as_aux_lemma=>kernel_rfl
namespace YtlmhhgemiknhdaaGreatDoor
theorem tells_card:Rows.ProofTellsCardSaid:=
 Claim7.holds_tied_plain_at .later [] [.data,.data,.data] true Rows.proofTellsCard.stood.harness true
  c8b (fun _ h=>by cases h) (by kernel_rfl) (fun _ h=>by cases h) proofTells_row_tie rfl ⟨rfl,rfl⟩ (by kernel_rfl) rfl
  (fun f fn hf hfn=>by
   obtain rfl:f = 3:=oI ((show Tryz.prog.funcNamed Tryz.f3.name = some 3 by kernel_rfl).symm.trans hf) |>.symm
   obtain rfl:fn = Tryz.f3:=(oI (Tryz.func3.symm.trans hfn)).symm
   exact ⟨by kernel_rfl,fun j t ht=>by
    rw [Tryz.params3] at ht
    have hm:t ∈ [26,27,9,28,32,34]:=by simpa using Array.mem_of_getElem? ht
    have hall:([26,27,9,28,32,34].all fun u=>!Tryz.prog.wantsStandIn u) = true:=by kernel_rfl
    exact (show Tryz.prog.wantsStandIn t = false by simpa using List.all_eq_true.1 hall t hm)⟩)
  (by kernel_rfl)
#print axioms tells_card
end YtlmhhgemiknhdaaGreatDoor
end Go.Proofs
