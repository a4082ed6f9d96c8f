/- The card of the statement PurseLeft about the given program: Reserve succeeds exactly if the challenge is from 1 to Q - 1 and Left is positive, then Left is less by one, and an item with this limit and window has the challenge, otherwise nothing changes; under the card's own conditions. -/
import Derived.Test.YtnbokkoppdnllaaGreatDoorPlf
set_option linter.all false
set_option maxRecDepth 100000
namespace Go.Proofs
open Go Go.Sh Go.RowKit Go.Lib CodeSpec TkSpec FdSpec PuSpec Go.ChangeShapes Go.WideShapes Go.ChangeAt
set_option maxRecDepth 100000 in
theorem left_lifted (os:Os) (started:os.Started) (H:Type) (enc:TypeId × Value → H) :
  ReturnsInHanded {} Tryz.checked os 6 .any (fun w args=>(YtnbokkoppdnllaaGreatDoor.Rows.purseLeftSpec.pre enc Tryz.prog Tryz.f6 [] false w args ∧ laidMetH Tryz.prog laidList w) ∧ sizedMet enc Tryz.prog Tryz.f6 (OpenSpec.ofChange YtnbokkoppdnllaaGreatDoor.Rows.purseLeftSpec) false w args)
   (YtnbokkoppdnllaaGreatDoor.Rows.purseLeftSpec.post enc Tryz.prog Tryz.f6 false true false false):=by
 refine law_lifted_laid (C:=Tryz.checked) (tb:=4) own started (by kernel_rfl) Tryz.func6 laidOut rfl Tryz.underlying4 (by kernel_rfl) rfl (fun ds h=>by
   rw [Tryz.params6] at h
   match ds,h with
   | [d1,d2,d3,d4,d5,d6],_=>rfl)
  (ChangeSpec.witness_shaped (enc:=enc) (C:=Tryz.checked) (os:=os) (X:=fun w _=>laidMetH Tryz.prog laidList w) false (World.doorLaid Tryz.prog 400 os) #[.agg #[.int .i64 0,.int .i64 0,.int .i64 0,.slice none 0 0,.int .i64 0],.slice none 0 0,.slice none 0 0,.int .i64 0,.int .i64 0,.int .i64 0] 8 rfl (World.shaped_of_RefB (by kernel_rfl) (by kernel_rfl)) (by kernel_rfl) (by kernel_rfl) (by kernel_rfl) (door_met os _)) ?_
 intro W base args ds p hval hA hsz hlt hL
 rw [Tryz.params6] at hA hval hsz
 have hl:=laid_of hL
 have hT:=db_of hL
 obtain ⟨v0,d0,vs,ds,p0,q0,rfl,rfl,h0,hB0,rfl⟩:=trodL_cons hA
 obtain ⟨s0,x0,rfl,hs0⟩:=open_stp hT (hval 0 50 v0 rfl rfl) h0
 obtain ⟨v1,d1,vs,ds,p1,q1,rfl,rfl,h1,hB1,rfl⟩:=trodL_cons hB0
 obtain ⟨l1,hl1⟩:=open_limits (hval 1 51 v1 rfl rfl) h1
 obtain ⟨v2,d2,vs,ds,p2,q2,rfl,rfl,h2,hB2,rfl⟩:=trodL_cons hB1
 obtain ⟨l2,hr2⟩:=open_helds (hval 2 52 v2 rfl rfl) h2
 obtain ⟨v3,d3,vs,ds,p3,q3,rfl,rfl,h3,hB3,rfl⟩:=trodL_cons hB2
 obtain ⟨n3,rfl,rfl,rfl,wn3⟩:=open_int Tryz.underlying3 (hval 3 3 v3 rfl rfl) h3
 obtain ⟨v4,d4,vs,ds,p4,q4,rfl,rfl,h4,hB4,rfl⟩:=trodL_cons hB3
 obtain ⟨n4,rfl,rfl,rfl,wn4⟩:=open_int Tryz.underlying3 (hval 4 3 v4 rfl rfl) h4
 obtain ⟨v5,d5,vs,ds,p5,q5,rfl,rfl,h5,hB5,rfl⟩:=trodL_cons hB4
 obtain ⟨n5,rfl,rfl,rfl,wn5⟩:=open_int Tryz.underlying3 (hval 5 3 v5 rfl rfl) h5
 obtain ⟨rfl,rfl,rfl⟩:=trodL0 hB5
 exact left_ok s0 l1 l2 n3 n4 n5 hs0 hl1 hr2 (intR wn3) (intR wn4) (intR wn5) hl hT (fun w' hb=>⟨rfl,hb⟩)
theorem a0z {a b:Bool} (h:a = true) (k:b = true):(a && b) = true:=by rw [h,k]; rfl
set_option maxHeartbeats 4000000 in
theorem left_holds:YtnbokkoppdnllaaGreatDoor.Rows.PurseLeftSaid:=by
 refine OpenClaim.holds_of_wide 6 Tryz.f6 rfl rfl rfl rfl rfl rfl rfl ⟨rfl,rfl,rfl,rfl,rfl⟩ rfl rfl rfl rfl rfl (by as_aux_lemma=>kernel_rfl) Tryz.func6 ?_
  (of_decide_eq_true (by as_aux_lemma=>kernel_rfl)) (by unfold Func.isWrapper; first | (rw [if_pos (by decide +kernel)]; kernel_rfl) | (rw [if_neg (by decide +kernel)]; exact ⟨rfl,rfl⟩))
  (fun os started H enc _=>left_lifted os started H enc)
 unfold joinedFacts
 iterate 31 (refine a0z ?_ (by as_aux_lemma=>kernel_rfl))
 as_aux_lemma=>kernel_rfl
namespace YtnbokkoppdnllaaGreatDoor
theorem left_card:Rows.PurseLeftCardSaid:=
 Claim7.holds_tied_plain_at .later [] [.data,.data,.data,.sentinel,.sentinel] true Rows.purseLeftCard.stood.harness true
  left_holds (fun _ h=>by cases h) (by kernel_rfl) (fun _ h=>by cases h) purseLeft_row_tie rfl ⟨rfl,rfl⟩ (by kernel_rfl) rfl
  (fun f fn hf hfn=>by
   obtain rfl:f = 6:=oI ((show Tryz.prog.funcNamed Tryz.f6.name = some 6 by kernel_rfl).symm.trans hf) |>.symm
   obtain rfl:fn = Tryz.f6:=(oI (Tryz.func6.symm.trans hfn)).symm
   exact ⟨by kernel_rfl,fun j t ht=>by
    rw [Tryz.params6] at ht
    have hm:t ∈ [50,51,52,3,3,3]:=by simpa using Array.mem_of_getElem? ht
    have hall:([50,51,52,3,3,3].all fun u=>!Tryz.prog.wantsStandIn u) = true:=by kernel_rfl
    exact (show Tryz.prog.wantsStandIn t = false by simpa using List.all_eq_true.1 hall t hm)⟩)
  (by kernel_rfl)
#print axioms left_card
end YtnbokkoppdnllaaGreatDoor
end Go.Proofs
