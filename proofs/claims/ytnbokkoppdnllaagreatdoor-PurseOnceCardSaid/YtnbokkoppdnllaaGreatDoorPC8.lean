/- PurseOnce: all spends that Answer and Lend return for one ticket, before and after crashes, are equal, and every one of them is accepted. -/
import Derived.Test.YtnbokkoppdnllaaGreatDoorQof
set_option linter.all false
set_option maxRecDepth 100000
namespace Go.Proofs
open Go Go.Sh Go.RowKit Go.Lib CodeSpec TkSpec FdSpec PuSpec Go.ChangeShapes Go.WideShapes Go.ChangeAt
set_option maxRecDepth 100000 in
theorem once_lifted (os:Os) (started:os.Started) (H:Type) (enc:TypeId × Value → H) :
  ReturnsInHanded {} Tryz.checked os 8 .any (fun w args=>(YtnbokkoppdnllaaGreatDoor.Rows.purseOnceSpec.pre enc Tryz.prog Tryz.f8 [] false w args ∧ laidMetH Tryz.prog laidList w) ∧ sizedMet enc Tryz.prog Tryz.f8 (OpenSpec.ofChange YtnbokkoppdnllaaGreatDoor.Rows.purseOnceSpec) false w args)
   (YtnbokkoppdnllaaGreatDoor.Rows.purseOnceSpec.post enc Tryz.prog Tryz.f8 false true false false):=by
 refine b6b (C:=Tryz.checked) (tb:=4) own started (by kernel_rfl) Tryz.func8 f8q rfl Tryz.underlying4 (by kernel_rfl) rfl (fun ds h=>by
   rw [Tryz.params8] at h
   match ds,h with
   | [d1,d2,d3],_=>rfl)
  (ChangeSpec.witness_shaped (enc:=enc) (C:=Tryz.checked) (os:=os) (X:=fun w _=>laidMetH Tryz.prog laidList w) false (World.doorLaid Tryz.prog 400 os) #[.agg #[.int .i64 0,.int .i64 0,.int .i64 0,.slice none 0 0,.int .i64 0],.slice none 0 0,.slice none 0 0] 8 rfl (World.shaped_of_RefB (by kernel_rfl) (by kernel_rfl)) (by kernel_rfl) (by kernel_rfl) (by kernel_rfl) (e8y os _)) ?_
 intro W base args ds p hval hA hsz hlt hL
 rw [Tryz.params8] at hA hval hsz
 have hl:=f8p hL
 have hT:=g8u hL
 obtain ⟨v0,d0,vs,ds,p0,q0,rfl,rfl,h0,hB0,rfl⟩:=b3t hA
 obtain ⟨s0,x0,rfl,hs0⟩:=e9b hT (hval 0 50 v0 rfl rfl) h0
 obtain ⟨v1,d1,vs,ds,p1,q1,rfl,rfl,h1,hB1,rfl⟩:=b3t hB0
 obtain ⟨l1,hl1⟩:=c6s (hval 1 51 v1 rfl rfl) h1
 obtain ⟨v2,d2,vs,ds,p2,q2,rfl,rfl,h2,hB2,rfl⟩:=b3t hB1
 obtain ⟨l2,ho2⟩:=c6t (hval 2 69 v2 rfl rfl) h2
 obtain ⟨rfl,rfl,rfl⟩:=g5c hB2
 exact g1a s0 l1 l2 hs0 hl1 ho2 hl hT (fun w' hb=>⟨rfl,hb⟩)
theorem a0z {a b:Bool} (h:a = true) (k:b = true):(a && b) = true:=by rw [h,k]; rfl
set_option maxHeartbeats 4000000 in
theorem d1x:YtnbokkoppdnllaaGreatDoor.Rows.PurseOnceSaid:=by
 refine OpenClaim.holds_of_wide 8 Tryz.f8 rfl rfl rfl rfl rfl rfl rfl ⟨rfl,rfl,rfl,rfl,rfl⟩ rfl rfl rfl rfl rfl (by as_aux_lemma=>kernel_rfl) Tryz.func8 ?_
  (of_decide_eq_true (by as_aux_lemma=>kernel_rfl)) (by unfold Func.isWrapper; first | (rw [if_pos (by decide +kernel)]; kernel_rfl) | (rw [if_neg (by decide +kernel)]; exact ⟨rfl,rfl⟩))
  (fun os started H enc _=>once_lifted os started H enc)
 unfold joinedFacts
 iterate 31 (refine a0z ?_ (by as_aux_lemma=>kernel_rfl))
 as_aux_lemma=>kernel_rfl
namespace YtnbokkoppdnllaaGreatDoor
theorem once_card:Rows.PurseOnceCardSaid:=
 Claim7.holds_tied_plain_at .later [] [.data,.data,.data,.sentinel,.sentinel] true Rows.purseOnceCard.stood.harness true
  d1x (fun _ h=>by cases h) (by kernel_rfl) (fun _ h=>by cases h) purseOnce_row_tie rfl ⟨rfl,rfl⟩ (by kernel_rfl) rfl
  (fun f fn hf hfn=>by
   obtain rfl:f = 8:=oI ((show Tryz.prog.funcNamed Tryz.f8.name = some 8 by kernel_rfl).symm.trans hf) |>.symm
   obtain rfl:fn = Tryz.f8:=(oI (Tryz.func8.symm.trans hfn)).symm
   exact ⟨by kernel_rfl,fun j t ht=>by
    rw [Tryz.params8] at ht
    have hm:t ∈ [50,51,69]:=by simpa using Array.mem_of_getElem? ht
    have hall:([50,51,69].all fun u=>!Tryz.prog.wantsStandIn u) = true:=by kernel_rfl
    exact (show Tryz.prog.wantsStandIn t = false by simpa using List.all_eq_true.1 hall t hm)⟩)
  (by kernel_rfl)
#print axioms once_card
end YtnbokkoppdnllaaGreatDoor
end Go.Proofs
