/- TopMatchings: every ticket with its spend can come from every session, by the blinding that Explain returns, for every issuer and at most four issuings within the limits. -/
import Derived.Test.YtpfjmfgnlpnflaaGreatDoorZme
set_option linter.all false
set_option maxRecDepth 100000
namespace Go.Proofs
open Go Go.Sh Go.RowKit Go.Lib CodeSpec TkSpec FdSpec Go.ChangeShapes Go.WideShapes Go.ChangeAt
set_option maxRecDepth 100000 in
theorem matchings_lifted (os : Os) (started : os.Started) (H : Type) (enc : TypeId × Value → H) :
    ReturnsInHanded {} Tryz.checked os 3 .any (fun w args => (YtpfjmfgnlpnflaaGreatDoor.Rows.topMatchingsSpec.pre enc Tryz.prog Tryz.f3 [] false w args ∧ laidMetH Tryz.prog laidList w) ∧ sizedMet enc Tryz.prog Tryz.f3 (OpenSpec.ofChange YtpfjmfgnlpnflaaGreatDoor.Rows.topMatchingsSpec) false w args)
      (YtpfjmfgnlpnflaaGreatDoor.Rows.topMatchingsSpec.post enc Tryz.prog Tryz.f3 false true false false) := by
  refine law_lifted_laid (C := Tryz.checked) (tb := 4) own started (by kernel_rfl) Tryz.func3 laidOut rfl Tryz.underlying4 (by kernel_rfl) rfl (fun ds h => by
      rw [Tryz.params3] at h
      match ds, h with
      | [d1, d2, d3], _ => rfl)
    (ChangeSpec.witness_shaped (enc := enc) (C := Tryz.checked) (os := os) (X := fun w _ => laidMetH Tryz.prog laidList w) false (World.doorLaid Tryz.prog 400 os) #[.agg #[.int .i64 0, .slice none 0 0, .int .i64 0, .int .i64 0], .slice none 0 0, .int .i64 0] 8 rfl (World.shaped_of_RefB (by kernel_rfl) (by kernel_rfl)) (by kernel_rfl) (by kernel_rfl) (by kernel_rfl) (door_met os _)) ?_
  intro W base args ds p hval hA hsz hlt hL
  rw [Tryz.params3] at hA hval hsz
  have hl := laid_of hL
  have hT := db_of hL
  obtain ⟨v0, d0, vs, ds, p0, q0, rfl, rfl, h0, hB0, rfl⟩ := trodL_cons hA
  obtain ⟨c0, x0, rfl, hs0⟩ := open_isu (hval 0 26 v0 rfl rfl) h0
  obtain ⟨v1, d1, vs, ds, p1, q1, rfl, rfl, h1, hB1, rfl⟩ := trodL_cons hB0
  obtain ⟨l1, hs1⟩ := open_isgs (hval 1 27 v1 rfl rfl) h1
  obtain ⟨v2, d2, vs, ds, p2, q2, rfl, rfl, h2, hB2, rfl⟩ := trodL_cons hB1
  obtain ⟨n2, rfl, rfl, rfl, wn2⟩ := open_int Tryz.underlying3 (hval 2 3 v2 rfl rfl) h2
  obtain ⟨rfl, rfl, rfl⟩ := trodL0 hB2
  exact matchings_law c0 l1 n2 (intR wn2) hT hl hs0 hs1 (fun w' hb => ⟨rfl, hb⟩)
theorem matchings_holds : YtpfjmfgnlpnflaaGreatDoor.Rows.TopMatchingsSaid :=
  OpenClaim.holds_of_wide 3 Tryz.f3 rfl rfl rfl rfl rfl rfl rfl ⟨rfl, rfl, rfl, rfl, rfl⟩ rfl rfl rfl rfl rfl (by kernel_rfl) Tryz.func3 (by kernel_rfl)
    (of_decide_eq_true (by kernel_rfl)) (by unfold Func.isWrapper; first | (rw [if_pos (by decide +kernel)]; kernel_rfl) | (rw [if_neg (by decide +kernel)]; exact ⟨rfl, rfl⟩))
    (fun os started H enc _ => matchings_lifted os started H enc)
namespace YtpfjmfgnlpnflaaGreatDoor
theorem matchings_card : Rows.TopMatchingsCardSaid :=
  Claim7.holds_tied_plain_at .later [] [.data, .data, .data] true Rows.topMatchingsCard.stood.harness true
    matchings_holds (fun _ h => by cases h) (by kernel_rfl) (fun _ h => by cases h) topMatchings_row_tie rfl ⟨rfl, rfl⟩ (by kernel_rfl) rfl
    (fun f fn hf hfn => by
      obtain rfl : f = 3 := Option.some.inj ((show Tryz.prog.funcNamed Tryz.f3.name = some 3 by kernel_rfl).symm.trans hf) |>.symm
      obtain rfl : fn = Tryz.f3 := (Option.some.inj (Tryz.func3.symm.trans hfn)).symm
      exact ⟨by kernel_rfl, fun j t ht => by
        rw [Tryz.params3] at ht
        have hm : t ∈ [26, 27, 3] := by simpa using Array.mem_of_getElem? ht
        have hall : ([26, 27, 3].all fun u => !Tryz.prog.wantsStandIn u) = true := by kernel_rfl
        exact (show Tryz.prog.wantsStandIn t = false by simpa using List.all_eq_true.1 hall t hm)⟩)
    (by kernel_rfl)
#print axioms matchings_card
end YtpfjmfgnlpnflaaGreatDoor
end Go.Proofs
