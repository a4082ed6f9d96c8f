/- BaseScans returns true for every string and list of tokens: scans_card is the tied card of the given row; no condition beyond the row's own. -/
import Derived.Test.YtilcjegkodkpiaaDoorLex16
import Derived.Test.YtilcjegkodkpiaaDoorRef7
set_option linter.all false
namespace Go.Proofs
open Go Go.Sh Go.RowKit Go.Lib Go.ChangeShapes Go.WideShapes Go.ChangeAt
set_option maxRecDepth 100000 in
theorem scans_lifted (os : Os) (started : os.Started) (H : Type) (enc : TypeId × Value → H) :
    ReturnsInHanded {} Tryd.checked os 6 .any (fun w args => (YtilcjegkodkpiaaDoor.Rows.baseScansSpec.pre enc Tryd.prog Tryd.f6 [] false w args ∧ laidMetH Tryd.prog signsList w) ∧ sizedMet enc Tryd.prog Tryd.f6 (OpenSpec.ofChange YtilcjegkodkpiaaDoor.Rows.baseScansSpec) false w args)
      (YtilcjegkodkpiaaDoor.Rows.baseScansSpec.post enc Tryd.prog Tryd.f6 false true false false) := by
  refine law_lifted_laid (C := Tryd.checked) (tb := 4) own started (by kernel_rfl) Tryd.func6 laidOut rfl Tryd.underlying4 (by kernel_rfl) rfl (fun ds h => by
      rw [Tryd.params6] at h
      match ds, h with
      | [d1, d2], _ => rfl)
    (ChangeSpec.witness_shaped (enc := enc) (C := Tryd.checked) (os := os) (X := fun w _ => laidMetH Tryd.prog signsList w) false (World.doorLaid Tryd.prog 400 os) #[.string ByteArray.empty, .slice none 0 0] 8 rfl (World.shaped_of_RefB (by kernel_rfl) (by kernel_rfl)) (by kernel_rfl) (by kernel_rfl) (by kernel_rfl) (door_met os _)) ?_
  intro W base args ds p hval hA hsz hlt hL
  rw [Tryd.params6] at hA hval hsz
  have hl := signs_of_laid hL
  have hw : 0 < W.heap.size := by obtain ⟨t, f, h⟩ := hl; exact (Array.getElem?_eq_some_iff.1 h).1
  obtain ⟨v0, d0, vs, ds, p0, q0, rfl, rfl, h0, hB0, rfl⟩ := trodL_cons hA
  obtain ⟨s0, rfl, rfl, rfl, ws0⟩ := ChangeMaps.open_string Tryd.underlying9 (hval 0 9 v0 rfl rfl) h0
  obtain ⟨v1, d1, vs, ds, p1, q1, rfl, rfl, h1, hB1, rfl⟩ := trodL_cons hB0
  obtain ⟨ts1, hrow1, hlen1⟩ := open_toks (hval 1 23 v1 rfl rfl) h1
  obtain ⟨rfl, rfl, rfl⟩ := trodL0 hB1
  have r0 : s0.size ≤ 140737488351232 := by
    have := sized_string hsz (j := 0) (t := 9) rfl rfl
    simpa [reachBytes] using this
  exact law6_ok s0 ts1 v1 (by omega) hrow1 hlen1 hl hw (fun w' hb => ⟨rfl, hb⟩)
theorem scans_holds : YtilcjegkodkpiaaDoor.Rows.BaseScansSaid :=
  OpenClaim.holds_of_wide 6 Tryd.f6 rfl rfl rfl rfl rfl rfl rfl ⟨rfl, rfl, rfl, rfl, rfl⟩ rfl rfl rfl rfl rfl (by kernel_rfl) Tryd.func6 (by kernel_rfl)
    (of_decide_eq_true (by kernel_rfl)) (by unfold Func.isWrapper; first | (rw [if_pos (by decide +kernel)]; kernel_rfl) | (rw [if_neg (by decide +kernel)]; exact ⟨rfl, rfl⟩))
    (fun os started H enc _ => scans_lifted os started H enc)
namespace YtilcjegkodkpiaaDoor
theorem scans_card : Rows.BaseScansCardSaid :=
  Claim7.holds_tied_plain_at .later [] [.data] true Rows.baseScansCard.stood.harness false
    scans_holds (fun _ h => by cases h) (by kernel_rfl) (fun _ h => by cases h) baseScans_row_tie rfl ⟨rfl, rfl⟩ (by kernel_rfl) rfl
    (fun f fn hf hfn => by
      obtain rfl : f = 6 := Option.some.inj ((show Tryd.prog.funcNamed Tryd.f6.name = some 6 by kernel_rfl).symm.trans hf) |>.symm
      obtain rfl : fn = Tryd.f6 := (Option.some.inj (Tryd.func6.symm.trans hfn)).symm
      exact ⟨by kernel_rfl, fun j t ht => by
        rw [Tryd.params6] at ht
        have hm : t ∈ [9, 23] := by simpa using Array.mem_of_getElem? ht
        have hall : ([9, 23].all fun u => !Tryd.prog.wantsStandIn u) = true := by kernel_rfl
        exact (show Tryd.prog.wantsStandIn t = false by simpa using List.all_eq_true.1 hall t hm)⟩)
    (by kernel_rfl)
#print axioms scans_card
end YtilcjegkodkpiaaDoor
end Go.Proofs
