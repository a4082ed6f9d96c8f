/- PurseRestores: a purse that is restored from a backup made before these operations has only free tickets of the backup, whose windows begin after the time, and none of them was spent by the old purse. -/
import Derived.Test.YtnbokkoppdnllaaGreatDoorQcg
set_option linter.all false
set_option maxRecDepth 100000
namespace Go.Proofs
open Go Go.Sh Go.RowKit Go.Lib CodeSpec TkSpec FdSpec PuSpec Go.ChangeShapes Go.WideShapes Go.ChangeAt
set_option maxRecDepth 100000 in
theorem restores_lifted (os:Os) (started:os.Started) (H:Type) (enc:TypeId × Value → H) :
  ReturnsInHanded {} Tryz.checked os 10 .any (fun w args=>(YtnbokkoppdnllaaGreatDoor.Rows.purseRestoresSpec.pre enc Tryz.prog Tryz.f10 [] false w args ∧ laidMetH Tryz.prog laidList w) ∧ sizedMet enc Tryz.prog Tryz.f10 (OpenSpec.ofChange YtnbokkoppdnllaaGreatDoor.Rows.purseRestoresSpec) false w args)
   (YtnbokkoppdnllaaGreatDoor.Rows.purseRestoresSpec.post enc Tryz.prog Tryz.f10 false true false false):=by
 refine b6k (C:=Tryz.checked) (tb:=4) own started (by kernel_rfl) Tryz.func10 f8n rfl Tryz.underlying4 (by kernel_rfl) rfl (fun ds h=>by
   rw [Tryz.params10] at h
   match ds,h with
   | [d1,d2,d3,d4,d5],_=>rfl)
  (ChangeSpec.witness_shaped (enc:=enc) (C:=Tryz.checked) (os:=os) (X:=fun w _=>laidMetH Tryz.prog laidList w) false (World.doorLaid Tryz.prog 400 os) #[.agg #[.int .i64 0,.int .i64 0,.int .i64 0,.slice none 0 0,.int .i64 0],.slice none 0 0,.slice none 0 0,.slice none 0 0,.int .i64 0] 8 rfl (World.shaped_of_RefB (by kernel_rfl) (by kernel_rfl)) (by kernel_rfl) (by kernel_rfl) (by kernel_rfl) (e9j os _)) ?_
 intro W base args ds p hval hA hsz hlt hL
 rw [Tryz.params10] at hA hval hsz
 have hl:=f8m hL
 have hT:=g8p hL
 obtain ⟨v0,d0,vs,ds,p0,q0,rfl,rfl,h0,hB0,rfl⟩:=a7s hA
 obtain ⟨s0,x0,rfl,hs0⟩:=e9m hT (hval 0 50 v0 rfl rfl) h0
 obtain ⟨v1,d1,vs,ds,p1,q1,rfl,rfl,h1,hB1,rfl⟩:=a7s hB0
 obtain ⟨l1,hl1⟩:=c7n (hval 1 51 v1 rfl rfl) h1
 obtain ⟨v2,d2,vs,ds,p2,q2,rfl,rfl,h2,hB2,rfl⟩:=a7s hB1
 obtain ⟨l2,hr2⟩:=d2l (hval 2 52 v2 rfl rfl) h2
 obtain ⟨v3,d3,vs,ds,p3,q3,rfl,rfl,h3,hB3,rfl⟩:=a7s hB2
 obtain ⟨l3,ho3⟩:=c7o (hval 3 69 v3 rfl rfl) h3
 obtain ⟨v4,d4,vs,ds,p4,q4,rfl,rfl,h4,hB4,rfl⟩:=a7s hB3
 obtain ⟨n4,rfl,rfl,rfl,wn4⟩:=open_int Tryz.underlying3 (hval 4 3 v4 rfl rfl) h4
 obtain ⟨rfl,rfl,rfl⟩:=g5b hB4
 exact c9i s0 l1 l2 l3 n4 hs0 hl1 hr2 ho3 hl hT (fun w' hb=>⟨rfl,hb⟩)
theorem a0z {a b:Bool} (h:a = true) (k:b = true):(a && b) = true:=by rw [h,k]; rfl
set_option maxHeartbeats 4000000 in
theorem b8t:YtnbokkoppdnllaaGreatDoor.Rows.PurseRestoresSaid:=by
 refine OpenClaim.holds_of_wide 10 Tryz.f10 rfl rfl rfl rfl rfl rfl rfl ⟨rfl,rfl,rfl,rfl,rfl⟩ rfl rfl rfl rfl rfl (by as_aux_lemma=>kernel_rfl) Tryz.func10 ?_
  (of_decide_eq_true (by as_aux_lemma=>kernel_rfl)) (by unfold Func.isWrapper; first | (rw [if_pos (by decide +kernel)]; kernel_rfl) | (rw [if_neg (by decide +kernel)]; exact ⟨rfl,rfl⟩))
  (fun os started H enc _=>restores_lifted os started H enc)
 unfold joinedFacts
 iterate 31 (refine a0z ?_ (by as_aux_lemma=>kernel_rfl))
 as_aux_lemma=>kernel_rfl
namespace YtnbokkoppdnllaaGreatDoor
theorem restores_card:Rows.PurseRestoresCardSaid:=
 Claim7.holds_tied_plain_at .later [] [.data,.data,.data,.sentinel,.sentinel] true Rows.purseRestoresCard.stood.harness true
  b8t (fun _ h=>by cases h) (by kernel_rfl) (fun _ h=>by cases h) purseRestores_row_tie rfl ⟨rfl,rfl⟩ (by kernel_rfl) rfl
  (fun f fn hf hfn=>by
   obtain rfl:f = 10:=oI ((show Tryz.prog.funcNamed Tryz.f10.name = some 10 by kernel_rfl).symm.trans hf) |>.symm
   obtain rfl:fn = Tryz.f10:=(oI (Tryz.func10.symm.trans hfn)).symm
   exact ⟨by kernel_rfl,fun j t ht=>by
    rw [Tryz.params10] at ht
    have hm:t ∈ [50,51,52,69,3]:=by simpa using Array.mem_of_getElem? ht
    have hall:([50,51,52,69,3].all fun u=>!Tryz.prog.wantsStandIn u) = true:=by kernel_rfl
    exact (show Tryz.prog.wantsStandIn t = false by simpa using List.all_eq_true.1 hall t hm)⟩)
  (by kernel_rfl)
#print axioms restores_card
end YtnbokkoppdnllaaGreatDoor
end Go.Proofs
