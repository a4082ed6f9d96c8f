/- PurseRemainder: the counts of Remainder are positive, ascend, and are together the number of held tickets that were not seen, for all held tickets, seen tickets and a further one. -/
import Derived.Test.YtnbokkoppdnllaaGreatDoorQrf
set_option linter.all false
set_option maxRecDepth 100000
namespace Go.Proofs
open Go Go.Sh Go.RowKit Go.Lib CodeSpec TkSpec FdSpec PuSpec Go.ChangeShapes Go.WideShapes Go.ChangeAt
set_option maxRecDepth 100000 in
theorem remainder_lifted (os:Os) (started:os.Started) (H:Type) (enc:TypeId × Value → H) :
  ReturnsInHanded {} Tryz.checked os 11 .any (fun w args=>(YtnbokkoppdnllaaGreatDoor.Rows.purseRemainderSpec.pre enc Tryz.prog Tryz.f11 [] false w args ∧ laidMetH Tryz.prog laidList w) ∧ sizedMet enc Tryz.prog Tryz.f11 (OpenSpec.ofChange YtnbokkoppdnllaaGreatDoor.Rows.purseRemainderSpec) false w args)
   (YtnbokkoppdnllaaGreatDoor.Rows.purseRemainderSpec.post enc Tryz.prog Tryz.f11 false true false false):=by
 refine b4q (C:=Tryz.checked) (tb:=4) own started (by kernel_rfl) Tryz.func11 f3u rfl Tryz.underlying4 (by kernel_rfl) rfl (fun ds h=>by
   rw [Tryz.params11] at h
   match ds,h with
   | [d1,d2,d3],_=>rfl)
  (ChangeSpec.witness_shaped (enc:=enc) (C:=Tryz.checked) (os:=os) (X:=fun w _=>laidMetH Tryz.prog laidList w) false (World.doorLaid Tryz.prog 400 os) #[.slice none 0 0,.slice none 0 0,.agg #[.int .i64 0,.int .i64 0,.int .i64 0,.int .i64 0,.int .i64 0,.int .i64 0]] 8 rfl (World.shaped_of_RefB (by kernel_rfl) (by kernel_rfl)) (by kernel_rfl) (by kernel_rfl) (by kernel_rfl) (e5f os _)) ?_
 intro W base args ds p hval hA hsz hlt hL
 rw [Tryz.params11] at hA hval hsz
 have hl:=f3t hL
 have hT:=g2c hL
 obtain ⟨v0,d0,vs,ds,p0,q0,rfl,rfl,h0,hB0,rfl⟩:=b2n hA
 obtain ⟨l0,hr0⟩:=c9l (hval 0 52 v0 rfl rfl) h0
 obtain ⟨v1,d1,vs,ds,p1,q1,rfl,rfl,h1,hB1,rfl⟩:=b2n hB0
 obtain ⟨l1,hr1,hz1⟩:=d6m (hval 1 97 v1 rfl rfl) h1
 obtain ⟨v2,d2,vs,ds,p2,q2,rfl,rfl,h2,hB2,rfl⟩:=b2n hB1
 obtain ⟨t2,rfl,ht2⟩:=e5g (hval 2 26 v2 rfl rfl) h2
 obtain ⟨rfl,rfl,rfl⟩:=f9e hB2
 exact c3w l0 l1 t2 hr0 hr1 hz1 (f3w ht2) hl hT (fun w' hb=>⟨rfl,hb⟩)
theorem a0z {a b:Bool} (h:a = true) (k:b = true):(a && b) = true:=by rw [h,k]; rfl
set_option maxHeartbeats 4000000 in
theorem b4s:YtnbokkoppdnllaaGreatDoor.Rows.PurseRemainderSaid:=by
 refine OpenClaim.holds_of_wide 11 Tryz.f11 rfl rfl rfl rfl rfl rfl rfl ⟨rfl,rfl,rfl,rfl,rfl⟩ rfl rfl rfl rfl rfl (by as_aux_lemma=>kernel_rfl) Tryz.func11 ?_
  (of_decide_eq_true (by as_aux_lemma=>kernel_rfl)) (by unfold Func.isWrapper; first | (rw [if_pos (by decide +kernel)]; kernel_rfl) | (rw [if_neg (by decide +kernel)]; exact ⟨rfl,rfl⟩))
  (fun os started H enc _=>remainder_lifted os started H enc)
 unfold joinedFacts
 iterate 31 (refine a0z ?_ (by as_aux_lemma=>kernel_rfl))
 as_aux_lemma=>kernel_rfl
namespace YtnbokkoppdnllaaGreatDoor
theorem remainder_card:Rows.PurseRemainderCardSaid:=
 Claim7.holds_tied_plain_at .later [] [.data,.data,.data,.sentinel,.sentinel] true Rows.purseRemainderCard.stood.harness true
  b4s (fun _ h=>by cases h) (by kernel_rfl) (fun _ h=>by cases h) purseRemainder_row_tie rfl ⟨rfl,rfl⟩ (by kernel_rfl) rfl
  (fun f fn hf hfn=>by
   obtain rfl:f = 11:=oI ((show Tryz.prog.funcNamed Tryz.f11.name = some 11 by kernel_rfl).symm.trans hf) |>.symm
   obtain rfl:fn = Tryz.f11:=(oI (Tryz.func11.symm.trans hfn)).symm
   exact ⟨by kernel_rfl,fun j t ht=>by
    rw [Tryz.params11] at ht
    have hm:t ∈ [52,97,26]:=by simpa using Array.mem_of_getElem? ht
    have hall:([52,97,26].all fun u=>!Tryz.prog.wantsStandIn u) = true:=by kernel_rfl
    exact (show Tryz.prog.wantsStandIn t = false by simpa using List.all_eq_true.1 hall t hm)⟩)
  (by kernel_rfl)
#print axioms remainder_card
end YtnbokkoppdnllaaGreatDoor
end Go.Proofs
