/- PurseForms: the functions about limits, held tickets, encodings and terms return the same results as the reference. -/
import Derived.Test.YtbfkhodfjecndaaGreatDoorFag
set_option linter.all false
set_option maxRecDepth 100000
namespace Go.Proofs
open Go Go.Sh Go.RowKit Go.Lib CodeSpec TkSpec FdSpec PuSpec Go.ChangeShapes Go.WideShapes Go.ChangeAt
set_option maxRecDepth 100000 in
theorem forms_lifted (os:Os) (started:os.Started) (H:Type) (enc:TypeId × Value → H) :
  ReturnsInHanded {} Tryz.checked os 3 .any (fun w args=>(YtbfkhodfjecndaaGreatDoor.Rows.purseFormsSpec.pre enc Tryz.prog Tryz.f3 [] false w args ∧ laidMetH Tryz.prog laidList w) ∧ sizedMet enc Tryz.prog Tryz.f3 (OpenSpec.ofChange YtbfkhodfjecndaaGreatDoor.Rows.purseFormsSpec) false w args)
   (YtbfkhodfjecndaaGreatDoor.Rows.purseFormsSpec.post enc Tryz.prog Tryz.f3 false true false false):=by
 refine b6d (C:=Tryz.checked) (tb:=4) own started (by kernel_rfl) Tryz.func3 f9n rfl Tryz.underlying4 (by kernel_rfl) rfl (fun ds h=>by
   rw [Tryz.params3] at h
   match ds,h with
   | [d1,d2,d3,d4,d5,d6],_=>rfl)
  (ChangeSpec.witness_shaped (enc:=enc) (C:=Tryz.checked) (os:=os) (X:=fun w _=>laidMetH Tryz.prog laidList w) false (World.doorLaid Tryz.prog 400 os) #[.agg #[.int .i64 0,.int .i64 0,.int .i64 0,.slice none 0 0,.int .i64 0],.slice none 0 0,.agg #[.int .i64 0,.int .i64 0,.slice none 0 0,.int .i64 0,.int .i64 0,.int .i64 0,.slice none 0 0,.int .i64 0,.int .i64 0,.int .i64 0,.int .i64 0,.int .i64 0,.int .i64 0,.slice none 0 0],.int .i64 0,.string ByteArray.empty,.string ByteArray.empty] 8 rfl (World.shaped_of_RefB (by kernel_rfl) (by kernel_rfl)) (by kernel_rfl) (by kernel_rfl) (by kernel_rfl) (e9v os _)) ?_
 intro W base args ds p hval hA hsz hlt hL
 rw [Tryz.params3] at hA hval hsz
 have hl:=f9m hL
 have hT:=g8n hL
 obtain ⟨v0,d0,vs,ds,p0,q0,rfl,rfl,h0,hB0,rfl⟩:=a7j hA
 obtain ⟨s0,x0,rfl,hs0⟩:=e9y hT (hval 0 26 v0 rfl rfl) h0
 obtain ⟨v1,d1,vs,ds,p1,q1,rfl,rfl,h1,hB1,rfl⟩:=a7j hB0
 obtain ⟨l1,hl1⟩:=c7m (hval 1 27 v1 rfl rfl) h1
 obtain ⟨v2,d2,vs,ds,p2,q2,rfl,rfl,h2,hB2,rfl⟩:=a7j hB1
 obtain ⟨x2,av2,yv2,kv2,rfl,hH2⟩:=e0t (hval 2 34 v2 rfl rfl) h2
 obtain ⟨v3,d3,vs,ds,p3,q3,rfl,rfl,h3,hB3,rfl⟩:=a7j hB2
 obtain ⟨n3,rfl,rfl,rfl,wn3⟩:=open_int Tryz.underlying3 (hval 3 3 v3 rfl rfl) h3
 obtain ⟨v4,d4,vs,ds,p4,q4,rfl,rfl,h4,hB4,rfl⟩:=a7j hB3
 obtain ⟨s4,rfl,rfl,rfl,ws4⟩:=ChangeMaps.open_string Tryz.underlying9 (hval 4 9 v4 rfl rfl) h4
 obtain ⟨v5,d5,vs,ds,p5,q5,rfl,rfl,h5,hB5,rfl⟩:=a7j hB4
 obtain ⟨s5,rfl,rfl,rfl,ws5⟩:=ChangeMaps.open_string Tryz.underlying9 (hval 5 9 v5 rfl rfl) h5
 obtain ⟨rfl,rfl,rfl⟩:=g5o hB5
 have r4:s4.size ≤ 140737488351232:=by
  have:=sized_string hsz (j:=4) (t:=9) rfl rfl
  simpa [reachBytes] using this
 have r5:s5.size ≤ 140737488351232:=by
  have:=sized_string hsz (j:=5) (t:=9) rfl rfl
  simpa [reachBytes] using this
 rw [f7q s4,f7q s5]
 exact f0l s0 l1 x2 n3 _ _ hs0 hl1 hH2 (by rw [f7r]; omega) (by rw [f7r]; omega) hl hT (fun w' hb=>⟨rfl,hb⟩)
theorem a0z {a b:Bool} (h:a = true) (k:b = true):(a && b) = true:=by rw [h,k]; rfl
set_option maxHeartbeats 4000000 in
theorem c7k:YtbfkhodfjecndaaGreatDoor.Rows.PurseFormsSaid:=by
 refine OpenClaim.holds_of_wide 3 Tryz.f3 rfl rfl rfl rfl rfl rfl rfl ⟨rfl,rfl,rfl,rfl,rfl⟩ rfl rfl rfl rfl rfl (by as_aux_lemma=>kernel_rfl) Tryz.func3 ?_
  (of_decide_eq_true (by as_aux_lemma=>kernel_rfl)) (by unfold Func.isWrapper; first | (rw [if_pos (by decide +kernel)]; kernel_rfl) | (rw [if_neg (by decide +kernel)]; exact ⟨rfl,rfl⟩))
  (fun os started H enc _=>forms_lifted os started H enc)
 unfold joinedFacts
 iterate 31 (refine a0z ?_ (by as_aux_lemma=>kernel_rfl))
 as_aux_lemma=>kernel_rfl
namespace YtbfkhodfjecndaaGreatDoor
theorem forms_card:Rows.PurseFormsCardSaid:=
 Claim7.holds_tied_plain_at .later [] [.data,.data,.data,.sentinel,.sentinel] true Rows.purseFormsCard.stood.harness true
  c7k (fun _ h=>by cases h) (by kernel_rfl) (fun _ h=>by cases h) purseForms_row_tie rfl ⟨rfl,rfl⟩ (by kernel_rfl) rfl
  (fun f fn hf hfn=>by
   obtain rfl:f = 3:=oI ((show Tryz.prog.funcNamed Tryz.f3.name = some 3 by kernel_rfl).symm.trans hf) |>.symm
   obtain rfl:fn = Tryz.f3:=(oI (Tryz.func3.symm.trans hfn)).symm
   exact ⟨by kernel_rfl,fun j t ht=>by
    rw [Tryz.params3] at ht
    have hm:t ∈ [26,27,34,3,9,9]:=by simpa using Array.mem_of_getElem? ht
    have hall:([26,27,34,3,9,9].all fun u=>!Tryz.prog.wantsStandIn u) = true:=by kernel_rfl
    exact (show Tryz.prog.wantsStandIn t = false by simpa using List.all_eq_true.1 hall t hm)⟩)
  (by kernel_rfl)
#print axioms forms_card
end YtbfkhodfjecndaaGreatDoor
end Go.Proofs
