/- For all lists of operations within the bounds and surviving sectors the law BaseLasts returns true: the statement of the seat, with no condition of its own. -/
import Derived.Test.YtefjibjojkjiiaaDoorLsf
set_option linter.all false
namespace Go.Proofs
open Go Go.Proofs.Cd Go.Sh Go.RowKit Go.Lib CodeSpec Go.ChangeShapes Go.WideShapes Go.ChangeAt
set_option maxRecDepth 100000 in
theorem lasts_lifted (os : Os) (started : os.Started) (H : Type) (enc : TypeId × Value → H) :
    ReturnsInHanded {} Tryd.checked os 9 .any (fun w args => (YtefjibjojkjiiaaDoor.Rows.baseLastsSpec.pre enc Tryd.prog Tryd.f9 [] false w args ∧ laidMetH Tryd.prog laidList w) ∧ sizedMet enc Tryd.prog Tryd.f9 (OpenSpec.ofChange YtefjibjojkjiiaaDoor.Rows.baseLastsSpec) false w args)
      (YtefjibjojkjiiaaDoor.Rows.baseLastsSpec.post enc Tryd.prog Tryd.f9 false true false false) := by
  refine law_lifted_laid (C := Tryd.checked) (tb := 4) own started (by kernel_rfl) Tryd.func9 laidOut rfl Tryd.underlying4 (by kernel_rfl) rfl (fun ds h => by
      rw [Tryd.params9] at h
      match ds, h with
      | [d1, d2], _ => rfl)
    (ChangeSpec.witness_shaped (enc := enc) (C := Tryd.checked) (os := os) (X := fun w _ => laidMetH Tryd.prog laidList w) false (World.doorLaid Tryd.prog 400 os) #[.slice none 0 0, .slice none 0 0] 8 rfl (World.shaped_of_RefB (by kernel_rfl) (by kernel_rfl)) (by kernel_rfl) (by kernel_rfl) (by kernel_rfl) (door_met os _)) ?_
  intro W base args ds p hval hA hsz hlt hL
  rw [Tryd.params9] at hA hval hsz
  have hw : 6 ≤ W.heap.size := heap6 hL
  have hl := laid_of hL hw
  obtain ⟨v0, d0, vs, ds, p0, q0, rfl, rfl, h0, hB0, rfl⟩ := trodL_cons hA
  obtain ⟨l0, hr0, hn0⟩ := open_ops (hval 0 64 v0 rfl rfl) h0
  obtain ⟨v1, d1, vs, ds, p1, q1, rfl, rfl, h1, hB1, rfl⟩ := trodL_cons hB0
  obtain ⟨l1, hr1, hk1⟩ := open_keep (hval 1 22 v1 rfl rfl) h1
  obtain ⟨rfl, rfl, rfl⟩ := trodL0 hB1
  exact lasts_ok hl hr0 hn0 hr1 hk1 (fun w' hb => ⟨rfl, hb⟩)
theorem lasts_holds : YtefjibjojkjiiaaDoor.Rows.BaseLastsSaid :=
  OpenClaim.holds_of_wide 9 Tryd.f9 rfl rfl rfl rfl rfl rfl rfl ⟨rfl, rfl, rfl, rfl, rfl⟩ rfl rfl rfl rfl rfl (by kernel_rfl) Tryd.func9 (by kernel_rfl)
    (of_decide_eq_true (by kernel_rfl)) (by unfold Func.isWrapper; first | (rw [if_pos (by decide +kernel)]; kernel_rfl) | (rw [if_neg (by decide +kernel)]; exact ⟨rfl, rfl⟩))
    (fun os started H enc _ => lasts_lifted os started H enc)
namespace YtefjibjojkjiiaaDoor
theorem lasts_card : Rows.BaseLastsCardSaid :=
  Claim7.holds_tied_plain_at .later [] [.data, .data, .data, .sentinel, .sentinel] true Rows.baseLastsCard.stood.harness true
    lasts_holds (fun _ h => by cases h) (by kernel_rfl) (fun _ h => by cases h) baseLasts_row_tie rfl ⟨rfl, rfl⟩ (by kernel_rfl) rfl
    (fun f fn hf hfn => by
      obtain rfl : f = 9 := Option.some.inj ((show Tryd.prog.funcNamed Tryd.f9.name = some 9 by kernel_rfl).symm.trans hf) |>.symm
      obtain rfl : fn = Tryd.f9 := (Option.some.inj (Tryd.func9.symm.trans hfn)).symm
      exact ⟨by kernel_rfl, fun j t ht => by
        rw [Tryd.params9] at ht
        have hm : t ∈ [64, 22] := by simpa using Array.mem_of_getElem? ht
        have hall : ([64, 22].all fun u => !Tryd.prog.wantsStandIn u) = true := by kernel_rfl
        exact (show Tryd.prog.wantsStandIn t = false by simpa using List.all_eq_true.1 hall t hm)⟩)
    (by kernel_rfl)
#print axioms lasts_card
end YtefjibjojkjiiaaDoor
end Go.Proofs
