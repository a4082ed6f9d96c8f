/- TicketChecks: each function that checks or uses tickets returns the same results as the reference, for every setup and all inputs within the limits. -/
import Derived.Test.YtpfjmfgnlpnflaaGreatDoorZce
set_option linter.all false
set_option maxRecDepth 100000
namespace Go.Proofs
open Go Go.Sh Go.RowKit Go.Lib CodeSpec TkSpec FdSpec Go.ChangeShapes Go.WideShapes Go.ChangeAt
set_option maxRecDepth 100000 in
theorem checks_lifted (os:Os) (started:os.Started) (H:Type) (enc:TypeId × Value → H) :
  ReturnsInHanded {} Tryz.checked os 10 .any (fun w args=>(YtpfjmfgnlpnflaaGreatDoor.Rows.ticketChecksSpec.pre enc Tryz.prog Tryz.f10 [] false w args ∧ laidMetH Tryz.prog laidList w) ∧ sizedMet enc Tryz.prog Tryz.f10 (OpenSpec.ofChange YtpfjmfgnlpnflaaGreatDoor.Rows.ticketChecksSpec) false w args)
   (YtpfjmfgnlpnflaaGreatDoor.Rows.ticketChecksSpec.post enc Tryz.prog Tryz.f10 false true false false):=by
 refine law_lifted_laid (C:=Tryz.checked) (tb:=4) own started (by kernel_rfl) Tryz.func10 laidOut rfl Tryz.underlying4 (by kernel_rfl) rfl (fun ds h=>by
   rw [Tryz.params10] at h
   match ds,h with
   | [d1,d2,d3,d4,d5,d6,d7,d8],_=>rfl)
  (ChangeSpec.witness_shaped (enc:=enc) (C:=Tryz.checked) (os:=os) (X:=fun w _=>laidMetH Tryz.prog laidList w) false (World.doorLaid Tryz.prog 400 os) #[.agg #[.int .i64 0,.int .i64 0,.int .i64 0,.slice none 0 0,.int .i64 0],.int .i64 0,.agg #[.int .i64 0,.int .i64 0,.int .i64 0,.int .i64 0,.int .i64 0,.int .i64 0],.agg #[.int .i64 0,.slice none 0 0],.agg #[.int .i64 0,.slice none 0 0],.slice none 0 0,.agg #[.int .i64 0,.int .i64 0,.int .i64 0,.slice none 0 0],.string ByteArray.empty] 8 rfl (World.shaped_of_RefB (by kernel_rfl) (by kernel_rfl)) (by kernel_rfl) (by kernel_rfl) (by kernel_rfl) (door_met os _)) ?_
 intro W base args ds p hval hA hsz hlt hL
 rw [Tryz.params10] at hA hval hsz
 have hl:=laid_of hL
 have hT:=db_of hL
 obtain ⟨v0,d0,vs,ds,p0,q0,rfl,rfl,h0,hB0,rfl⟩:=trodL_cons hA
 obtain ⟨s0,x0,rfl,hs0⟩:=open_stp hT (hval 0 32 v0 rfl rfl) h0
 obtain ⟨v1,d1,vs,ds,p1,q1,rfl,rfl,h1,hB1,rfl⟩:=trodL_cons hB0
 obtain ⟨n1,rfl,rfl,rfl,wn1⟩:=open_int Tryz.underlying3 (hval 1 3 v1 rfl rfl) h1
 obtain ⟨v2,d2,vs,ds,p2,q2,rfl,rfl,h2,hB2,rfl⟩:=trodL_cons hB1
 obtain ⟨t2,rfl,ht2⟩:=open_tkt (hval 2 41 v2 rfl rfl) h2
 obtain ⟨v3,d3,vs,ds,p3,q3,rfl,rfl,h3,hB3,rfl⟩:=trodL_cons hB2
 obtain ⟨s3,x3,rfl,hs3⟩:=open_spd (hval 3 49 v3 rfl rfl) h3
 obtain ⟨v4,d4,vs,ds,p4,q4,rfl,rfl,h4,hB4,rfl⟩:=trodL_cons hB3
 obtain ⟨s4,x4,rfl,hs4⟩:=open_spd (hval 4 49 v4 rfl rfl) h4
 obtain ⟨v5,d5,vs,ds,p5,q5,rfl,rfl,h5,hB5,rfl⟩:=trodL_cons hB4
 obtain ⟨l5,hs5⟩:=open_list (hval 5 22 v5 rfl rfl) h5
 obtain ⟨v6,d6,vs,ds,p6,q6,rfl,rfl,h6,hB6,rfl⟩:=trodL_cons hB5
 obtain ⟨s6,x6,rfl,hs6⟩:=open_bld (hval 6 45 v6 rfl rfl) h6
 obtain ⟨v7,d7,vs,ds,p7,q7,rfl,rfl,h7,hB7,rfl⟩:=trodL_cons hB6
 obtain ⟨s7,rfl,rfl,rfl,ws7⟩:=ChangeMaps.open_string Tryz.underlying9 (hval 7 9 v7 rfl rfl) h7
 obtain ⟨rfl,rfl,rfl⟩:=trodL0 hB7
 have r7:s7.size ≤ 140737488351232:=by
  have:=sized_string hsz (j:=7) (t:=9) rfl rfl
  simpa [reachBytes] using this
 rw [ba_of1 s7]
 exact checks_law s0 n1 t2 s3 s4 s6 _ (intR wn1) (by rw [ba_len]; omega) hl hs0 ht2 hs3 hs4 hs5 hs6 (fun w' hb=>⟨rfl,hb⟩)
theorem checks_holds:YtpfjmfgnlpnflaaGreatDoor.Rows.TicketChecksSaid:=
 OpenClaim.holds_of_wide 10 Tryz.f10 rfl rfl rfl rfl rfl rfl rfl ⟨rfl,rfl,rfl,rfl,rfl⟩ rfl rfl rfl rfl rfl (by kernel_rfl) Tryz.func10 (by kernel_rfl)
  (of_decide_eq_true (by kernel_rfl)) (by unfold Func.isWrapper; first | (rw [if_pos (by decide +kernel)]; kernel_rfl) | (rw [if_neg (by decide +kernel)]; exact ⟨rfl,rfl⟩))
  (fun os started H enc _=>checks_lifted os started H enc)
namespace YtpfjmfgnlpnflaaGreatDoor
theorem checks_card:Rows.TicketChecksCardSaid:=
 Claim7.holds_tied_plain_at .later [] [.data,.data,.data,.sentinel,.sentinel] true Rows.ticketChecksCard.stood.harness true
  checks_holds (fun _ h=>by cases h) (by kernel_rfl) (fun _ h=>by cases h) ticketChecks_row_tie rfl ⟨rfl,rfl⟩ (by kernel_rfl) rfl
  (fun f fn hf hfn=>by
   obtain rfl:f = 10:=Option.some.inj ((show Tryz.prog.funcNamed Tryz.f10.name = some 10 by kernel_rfl).symm.trans hf) |>.symm
   obtain rfl:fn = Tryz.f10:=(Option.some.inj (Tryz.func10.symm.trans hfn)).symm
   exact ⟨by kernel_rfl,fun j t ht=>by
    rw [Tryz.params10] at ht
    have hm:t ∈ [32,3,41,49,49,22,45,9]:=by simpa using Array.mem_of_getElem? ht
    have hall:([32,3,41,49,49,22,45,9].all fun u=>!Tryz.prog.wantsStandIn u) = true:=by kernel_rfl
    exact (show Tryz.prog.wantsStandIn t = false by simpa using List.all_eq_true.1 hall t hm)⟩)
  (by kernel_rfl)
#print axioms checks_card
end YtpfjmfgnlpnflaaGreatDoor
end Go.Proofs
