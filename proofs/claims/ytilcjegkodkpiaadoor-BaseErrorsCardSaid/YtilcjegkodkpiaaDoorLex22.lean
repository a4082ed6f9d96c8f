/- BaseErrors returns true for every string and bool: errors_card is the tied card of the given row; no condition beyond the row's own. -/
import Derived.Test.YtilcjegkodkpiaaDoorLex16
import Derived.Test.YtilcjegkodkpiaaDoorLex18
set_option linter.all false
namespace Go.Proofs
open Go Go.Sh Go.RowKit Go.Lib Go.ChangeShapes Go.WideShapes Go.ChangeAt
set_option maxRecDepth 100000 in
theorem errors_lifted (os : Os) (started : os.Started) (H : Type) (enc : TypeId × Value → H) :
    ReturnsInHanded {} Tryd.checked os 5 .any (fun w args => (YtilcjegkodkpiaaDoor.Rows.baseErrorsSpec.pre enc Tryd.prog Tryd.f5 [] false w args ∧ laidMetH Tryd.prog signsList w) ∧ sizedMet enc Tryd.prog Tryd.f5 (OpenSpec.ofChange YtilcjegkodkpiaaDoor.Rows.baseErrorsSpec) false w args)
      (YtilcjegkodkpiaaDoor.Rows.baseErrorsSpec.post enc Tryd.prog Tryd.f5 false true false false) := by
  refine law_lifted_laid (C := Tryd.checked) (tb := 4) own started (by kernel_rfl) Tryd.func5 laidOut rfl Tryd.underlying4 (by kernel_rfl) rfl (fun ds h => by
      rw [Tryd.params5] at h
      match ds, h with
      | [d1, d2], _ => rfl)
    (ChangeSpec.witness_shaped (enc := enc) (C := Tryd.checked) (os := os) (X := fun w _ => laidMetH Tryd.prog signsList w) false (World.doorLaid Tryd.prog 400 os) #[.string ByteArray.empty, .bool false] 8 rfl (World.shaped_of_RefB (by kernel_rfl) (by kernel_rfl)) (by kernel_rfl) (by kernel_rfl) (by kernel_rfl) (door_met os _)) ?_
  intro W base args ds p hval hA hsz hlt hL
  rw [Tryd.params5] at hA hval hsz
  have hl := signs_of_laid hL
  have hw : 0 < W.heap.size := by obtain ⟨t, f, h⟩ := hl; exact (Array.getElem?_eq_some_iff.1 h).1
  obtain ⟨v0, d0, vs, ds, p0, q0, rfl, rfl, h0, hB0, rfl⟩ := trodL_cons hA
  obtain ⟨s0, rfl, rfl, rfl, ws0⟩ := ChangeMaps.open_string Tryd.underlying9 (hval 0 9 v0 rfl rfl) h0
  obtain ⟨v1, d1, vs, ds, p1, q1, rfl, rfl, h1, hB1, rfl⟩ := trodL_cons hB0
  obtain ⟨b1, rfl, rfl, rfl⟩ := open_bool Tryd.underlying4 (hval 1 4 v1 rfl rfl) h1
  obtain ⟨rfl, rfl, rfl⟩ := trodL0 hB1
  have r0 : s0.size ≤ 140737488351232 := by
    have := sized_string hsz (j := 0) (t := 9) rfl rfl
    simpa [reachBytes] using this
  exact law5_ok s0 b1 (by omega) hl hw (fun w' hb => ⟨rfl, hb⟩)
theorem errors_holds : YtilcjegkodkpiaaDoor.Rows.BaseErrorsSaid :=
  OpenClaim.holds_of_wide 5 Tryd.f5 rfl rfl rfl rfl rfl rfl rfl ⟨rfl, rfl, rfl, rfl, rfl⟩ rfl rfl rfl rfl rfl (by kernel_rfl) Tryd.func5 (by kernel_rfl)
    (of_decide_eq_true (by kernel_rfl)) (by unfold Func.isWrapper; first | (rw [if_pos (by decide +kernel)]; kernel_rfl) | (rw [if_neg (by decide +kernel)]; exact ⟨rfl, rfl⟩))
    (fun os started H enc _ => errors_lifted os started H enc)
namespace YtilcjegkodkpiaaDoor
theorem errors_card : Rows.BaseErrorsCardSaid :=
  Claim7.holds_tied_plain_at .later [] [.data] true Rows.baseErrorsCard.stood.harness false
    errors_holds (fun _ h => by cases h) (by kernel_rfl) (fun _ h => by cases h) baseErrors_row_tie rfl ⟨rfl, rfl⟩ (by kernel_rfl) rfl
    (fun f fn hf hfn => by
      obtain rfl : f = 5 := Option.some.inj ((show Tryd.prog.funcNamed Tryd.f5.name = some 5 by kernel_rfl).symm.trans hf) |>.symm
      obtain rfl : fn = Tryd.f5 := (Option.some.inj (Tryd.func5.symm.trans hfn)).symm
      exact ⟨by kernel_rfl, fun j t ht => by
        rw [Tryd.params5] at ht
        have hm : t ∈ [9, 4] := by simpa using Array.mem_of_getElem? ht
        have hall : ([9, 4].all fun u => !Tryd.prog.wantsStandIn u) = true := by kernel_rfl
        exact (show Tryd.prog.wantsStandIn t = false by simpa using List.all_eq_true.1 hall t hm)⟩)
    (by kernel_rfl)
#print axioms errors_card
end YtilcjegkodkpiaaDoor
end Go.Proofs
