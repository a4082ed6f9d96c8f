/- PurseLends: Lend answers as the law says, for every setup, limits, held tickets, limit, time, ticket and terms. -/
import Derived.Test.YtnbokkoppdnllaaGreatDoorQlf
set_option linter.all false
set_option maxRecDepth 100000
namespace Go.Proofs
open Go Go.Sh Go.RowKit Go.Lib CodeSpec TkSpec FdSpec PuSpec Go.ChangeShapes Go.WideShapes Go.ChangeAt
set_option maxRecDepth 100000 in
theorem lends_lifted (os:Os) (started:os.Started) (H:Type) (enc:TypeId × Value → H) :
  ReturnsInHanded {} Tryz.checked os 9 .any (fun w args=>(YtnbokkoppdnllaaGreatDoor.Rows.purseLendsSpec.pre enc Tryz.prog Tryz.f9 [] false w args ∧ laidMetH Tryz.prog laidList w) ∧ sizedMet enc Tryz.prog Tryz.f9 (OpenSpec.ofChange YtnbokkoppdnllaaGreatDoor.Rows.purseLendsSpec) false w args)
   (YtnbokkoppdnllaaGreatDoor.Rows.purseLendsSpec.post enc Tryz.prog Tryz.f9 false true false false):=by
 refine b6k (C:=Tryz.checked) (tb:=4) own started (by kernel_rfl) Tryz.func9 f8h rfl Tryz.underlying4 (by kernel_rfl) rfl (fun ds h=>by
   rw [Tryz.params9] at h
   match ds,h with
   | [d1,d2,d3,d4,d5,d6,d7],_=>rfl)
  (ChangeSpec.witness_shaped (enc:=enc) (C:=Tryz.checked) (os:=os) (X:=fun w _=>laidMetH Tryz.prog laidList w) false (World.doorLaid Tryz.prog 400 os) #[.agg #[.int .i64 0,.int .i64 0,.int .i64 0,.slice none 0 0,.int .i64 0],.slice none 0 0,.slice none 0 0,.int .i64 0,.int .i64 0,.agg #[.int .i64 0,.int .i64 0,.int .i64 0,.int .i64 0,.int .i64 0,.int .i64 0],.string ByteArray.empty] 8 rfl (World.shaped_of_RefB (by kernel_rfl) (by kernel_rfl)) (by kernel_rfl) (by kernel_rfl) (by kernel_rfl) (e8x os _)) ?_
 intro W base args ds p hval hA hsz hlt hL
 rw [Tryz.params9] at hA hval hsz
 have hl:=f8g hL
 have hT:=g8h hL
 obtain ⟨v0,d0,vs,ds,p0,q0,rfl,rfl,h0,hB0,rfl⟩:=a5i hA
 obtain ⟨s0,x0,rfl,hs0⟩:=e9a hT (hval 0 50 v0 rfl rfl) h0
 obtain ⟨v1,d1,vs,ds,p1,q1,rfl,rfl,h1,hB1,rfl⟩:=a5i hB0
 obtain ⟨l1,hl1⟩:=c6u (hval 1 51 v1 rfl rfl) h1
 obtain ⟨v2,d2,vs,ds,p2,q2,rfl,rfl,h2,hB2,rfl⟩:=a5i hB1
 obtain ⟨l2,hr2⟩:=d2c (hval 2 52 v2 rfl rfl) h2
 obtain ⟨v3,d3,vs,ds,p3,q3,rfl,rfl,h3,hB3,rfl⟩:=a5i hB2
 obtain ⟨n3,rfl,rfl,rfl,wn3⟩:=open_int Tryz.underlying3 (hval 3 3 v3 rfl rfl) h3
 obtain ⟨v4,d4,vs,ds,p4,q4,rfl,rfl,h4,hB4,rfl⟩:=a5i hB3
 obtain ⟨n4,rfl,rfl,rfl,wn4⟩:=open_int Tryz.underlying3 (hval 4 3 v4 rfl rfl) h4
 obtain ⟨v5,d5,vs,ds,p5,q5,rfl,rfl,h5,hB5,rfl⟩:=a5i hB4
 obtain ⟨t5,rfl,ht5⟩:=e8y (hval 5 26 v5 rfl rfl) h5
 obtain ⟨v6,d6,vs,ds,p6,q6,rfl,rfl,h6,hB6,rfl⟩:=a5i hB5
 obtain ⟨s6,rfl,rfl,rfl,ws6⟩:=ChangeMaps.open_string Tryz.underlying9 (hval 6 9 v6 rfl rfl) h6
 obtain ⟨rfl,rfl,rfl⟩:=g4q hB6
 have r6:s6.size ≤ 140737488351232:=by
  have:=sized_string hsz (j:=6) (t:=9) rfl rfl
  simpa [reachBytes] using this
 rw [g4r s6]
 exact f2j s0 l1 l2 n3 n4 t5 _ hs0 hl1 hr2 (c3a wn3) (c3a wn4) ht5 (by rw [g4s]; omega) hl hT (fun w' hb=>⟨rfl,hb⟩)
theorem a0z {a b:Bool} (h:a = true) (k:b = true):(a && b) = true:=by rw [h,k]; rfl
set_option maxHeartbeats 4000000 in
theorem c6s:YtnbokkoppdnllaaGreatDoor.Rows.PurseLendsSaid:=by
 refine OpenClaim.holds_of_wide 9 Tryz.f9 rfl rfl rfl rfl rfl rfl rfl ⟨rfl,rfl,rfl,rfl,rfl⟩ rfl rfl rfl rfl rfl (by as_aux_lemma=>kernel_rfl) Tryz.func9 ?_
  (of_decide_eq_true (by as_aux_lemma=>kernel_rfl)) (by unfold Func.isWrapper; first | (rw [if_pos (by decide +kernel)]; kernel_rfl) | (rw [if_neg (by decide +kernel)]; exact ⟨rfl,rfl⟩))
  (fun os started H enc _=>lends_lifted os started H enc)
 unfold joinedFacts
 iterate 31 (refine a0z ?_ (by as_aux_lemma=>kernel_rfl))
 as_aux_lemma=>kernel_rfl
namespace YtnbokkoppdnllaaGreatDoor
theorem lends_card:Rows.PurseLendsCardSaid:=
 Claim7.holds_tied_plain_at .later [] [.data,.data,.data,.sentinel,.sentinel] true Rows.purseLendsCard.stood.harness true
  c6s (fun _ h=>by cases h) (by kernel_rfl) (fun _ h=>by cases h) purseLends_row_tie rfl ⟨rfl,rfl⟩ (by kernel_rfl) rfl
  (fun f fn hf hfn=>by
   obtain rfl:f = 9:=oI ((show Tryz.prog.funcNamed Tryz.f9.name = some 9 by kernel_rfl).symm.trans hf) |>.symm
   obtain rfl:fn = Tryz.f9:=(oI (Tryz.func9.symm.trans hfn)).symm
   exact ⟨by kernel_rfl,fun j t ht=>by
    rw [Tryz.params9] at ht
    have hm:t ∈ [50,51,52,3,3,26,9]:=by simpa using Array.mem_of_getElem? ht
    have hall:([50,51,52,3,3,26,9].all fun u=>!Tryz.prog.wantsStandIn u) = true:=by kernel_rfl
    exact (show Tryz.prog.wantsStandIn t = false by simpa using List.all_eq_true.1 hall t hm)⟩)
  (by kernel_rfl)
#print axioms lends_card
end YtnbokkoppdnllaaGreatDoor
end Go.Proofs
