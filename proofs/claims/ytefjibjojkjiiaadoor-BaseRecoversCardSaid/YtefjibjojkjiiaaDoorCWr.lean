/- For all values within the bounds, a byte, surviving sectors and further values the law BaseRecovers returns true: the statement of the seat, with no condition of its own. -/
import Derived.Test.YtefjibjojkjiiaaDoorRcg
set_option linter.all false
namespace Go.Proofs
open Go Go.Proofs.Cd Go.Sh Go.RowKit Go.Lib CodeSpec Go.ChangeShapes Go.WideShapes Go.ChangeAt
set_option maxRecDepth 100000 in
theorem recovers_lifted (os : Os) (started : os.Started) (H : Type) (enc : TypeId × Value → H) :
    ReturnsInHanded {} Tryd.checked os 10 .any (fun w args => (YtefjibjojkjiiaaDoor.Rows.baseRecoversSpec.pre enc Tryd.prog Tryd.f10 [] false w args ∧ laidMetH Tryd.prog laidList w) ∧ sizedMet enc Tryd.prog Tryd.f10 (OpenSpec.ofChange YtefjibjojkjiiaaDoor.Rows.baseRecoversSpec) false w args)
      (YtefjibjojkjiiaaDoor.Rows.baseRecoversSpec.post enc Tryd.prog Tryd.f10 false true false false) := by
  refine law_lifted_laid (C := Tryd.checked) (tb := 4) own started (by kernel_rfl) Tryd.func10 laidOut rfl Tryd.underlying4 (by kernel_rfl) rfl (fun ds h => by
      rw [Tryd.params10] at h
      match ds, h with
      | [d1, d2, d3, d4], _ => rfl)
    (ChangeSpec.witness_shaped (enc := enc) (C := Tryd.checked) (os := os) (X := fun w _ => laidMetH Tryd.prog laidList w) false (World.doorLaid Tryd.prog 400 os) #[.slice none 0 0, .int .u8 0, .slice none 0 0, .slice none 0 0] 8 rfl (World.shaped_of_RefB (by kernel_rfl) (by kernel_rfl)) (by kernel_rfl) (by kernel_rfl) (by kernel_rfl) (door_met os _)) ?_
  intro W base args ds p hval hA hsz hlt hL
  rw [Tryd.params10] at hA hval hsz
  have hw : 6 ≤ W.heap.size := heap6 hL
  have hl := laid_of hL hw
  obtain ⟨v0, d0, vs, ds, p0, q0, rfl, rfl, h0, hB0, rfl⟩ := trodL_cons hA
  obtain ⟨l0, hv0, hr0⟩ := open_valsC (hval 0 28 v0 rfl rfl) h0
  obtain ⟨v1, d1, vs, ds, p1, q1, rfl, rfl, h1, hB1, rfl⟩ := trodL_cons hB0
  obtain ⟨n1, rfl, rfl, rfl, wn1⟩ := open_int Tryd.underlying5 (hval 1 5 v1 rfl rfl) h1
  obtain ⟨v2, d2, vs, ds, p2, q2, rfl, rfl, h2, hB2, rfl⟩ := trodL_cons hB1
  obtain ⟨l2, hr2, hk2⟩ := open_keep (hval 2 22 v2 rfl rfl) h2
  obtain ⟨v3, d3, vs, ds, p3, q3, rfl, rfl, h3, hB3, rfl⟩ := trodL_cons hB2
  obtain ⟨l3, hv3, hr3⟩ := open_valsC (hval 3 28 v3 rfl rfl) h3
  obtain ⟨rfl, rfl, rfl⟩ := trodL0 hB3
  exact recovers_ok (inU wn1) hl hr0 hr3 hv0 hv3 hr2 (fun w' hb => ⟨rfl, hb⟩)
theorem recovers_holds : YtefjibjojkjiiaaDoor.Rows.BaseRecoversSaid :=
  OpenClaim.holds_of_wide 10 Tryd.f10 rfl rfl rfl rfl rfl rfl rfl ⟨rfl, rfl, rfl, rfl, rfl⟩ rfl rfl rfl rfl rfl (by kernel_rfl) Tryd.func10 (by kernel_rfl)
    (of_decide_eq_true (by kernel_rfl)) (by unfold Func.isWrapper; first | (rw [if_pos (by decide +kernel)]; kernel_rfl) | (rw [if_neg (by decide +kernel)]; exact ⟨rfl, rfl⟩))
    (fun os started H enc _ => recovers_lifted os started H enc)
namespace YtefjibjojkjiiaaDoor
theorem recovers_card : Rows.BaseRecoversCardSaid :=
  Claim7.holds_tied_plain_at .later [] [.data, .data, .data, .sentinel, .sentinel] true Rows.baseRecoversCard.stood.harness true
    recovers_holds (fun _ h => by cases h) (by kernel_rfl) (fun _ h => by cases h) baseRecovers_row_tie rfl ⟨rfl, rfl⟩ (by kernel_rfl) rfl
    (fun f fn hf hfn => by
      obtain rfl : f = 10 := Option.some.inj ((show Tryd.prog.funcNamed Tryd.f10.name = some 10 by kernel_rfl).symm.trans hf) |>.symm
      obtain rfl : fn = Tryd.f10 := (Option.some.inj (Tryd.func10.symm.trans hfn)).symm
      exact ⟨by kernel_rfl, fun j t ht => by
        rw [Tryd.params10] at ht
        have hm : t ∈ [28, 5, 22, 28] := by simpa using Array.mem_of_getElem? ht
        have hall : ([28, 5, 22, 28].all fun u => !Tryd.prog.wantsStandIn u) = true := by kernel_rfl
        exact (show Tryd.prog.wantsStandIn t = false by simpa using List.all_eq_true.1 hall t hm)⟩)
    (by kernel_rfl)
#print axioms recovers_card
end YtefjibjojkjiiaaDoor
end Go.Proofs
