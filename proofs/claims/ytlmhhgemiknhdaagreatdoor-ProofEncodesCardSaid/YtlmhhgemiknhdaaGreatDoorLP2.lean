/- The law ProofEncodes of the given program returns true for every argument, and nothing that was there has turned. Conditions: those of the card alone. -/
import Derived.Test.YtlmhhgemiknhdaaGreatDoorPef
set_option linter.all false
namespace Go.Proofs
open Go Go.Sh Go.RowKit Go.Lib CodeSpec TkSpec FdSpec PrSpec Go.ChangeShapes Go.WideShapes Go.ChangeAt
set_option maxRecDepth 100000 in
theorem encodes_lifted (os : Os) (started : os.Started) (H : Type) (enc : TypeId × Value → H) :
    ReturnsInHanded {} Tryz.checked os 10 .any (fun w args => (YtlmhhgemiknhdaaGreatDoor.Rows.proofEncodesSpec.pre enc Tryz.prog Tryz.f10 [] false w args ∧ laidMetH Tryz.prog laidList w) ∧ sizedMet enc Tryz.prog Tryz.f10 (OpenSpec.ofChange YtlmhhgemiknhdaaGreatDoor.Rows.proofEncodesSpec) false w args)
      (YtlmhhgemiknhdaaGreatDoor.Rows.proofEncodesSpec.post enc Tryz.prog Tryz.f10 false true false false) := by
  refine law_lifted_laid (C := Tryz.checked) (tb := 4) own started (by kernel_rfl) Tryz.func10 laidOut rfl Tryz.underlying4 (by kernel_rfl) rfl (fun ds h => by
      rw [Tryz.params10] at h
      match ds, h with
      | [d1, d2, d3, d4], _ => rfl)
    (ChangeSpec.witness_shaped (enc := enc) (C := Tryz.checked) (os := os) (X := fun w _ => laidMetH Tryz.prog laidList w) false (World.doorLaid Tryz.prog 400 os) #[.agg #[.slice none 0 0, .slice none 0 0], .string ByteArray.empty, .slice none 0 0, .slice none 0 0] 8 rfl (World.shaped_of_RefB (by kernel_rfl) (by kernel_rfl)) (by kernel_rfl) (by kernel_rfl) (by kernel_rfl) (door_met os _)) ?_
  intro W base args ds p hval hA hsz hlt hL
  rw [Tryz.params10] at hA hval hsz
  have hl := laid_of hL
  have hT := db_of hL
  obtain ⟨v0, d0, vs, ds, p0, q0, rfl, rfl, h0, hB0, rfl⟩ := trodL_cons hA
  obtain ⟨dv0, av0, dx0, al0, rfl, hd0, ha0⟩ := open_prf (hval 0 34 v0 rfl rfl) h0
  obtain ⟨v1, d1, vs, ds, p1, q1, rfl, rfl, h1, hB1, rfl⟩ := trodL_cons hB0
  obtain ⟨s1, rfl, rfl, rfl, ws1⟩ := ChangeMaps.open_string Tryz.underlying9 (hval 1 9 v1 rfl rfl) h1
  obtain ⟨v2, d2, vs, ds, p2, q2, rfl, rfl, h2, hB2, rfl⟩ := trodL_cons hB1
  obtain ⟨l2, hg2⟩ := open_goal (hval 2 27 v2 rfl rfl) h2
  obtain ⟨v3, d3, vs, ds, p3, q3, rfl, rfl, h3, hB3, rfl⟩ := trodL_cons hB2
  obtain ⟨l3, hg3⟩ := open_goal (hval 3 27 v3 rfl rfl) h3
  obtain ⟨rfl, rfl, rfl⟩ := trodL0 hB3
  have r1 : s1.size ≤ 140737488351232 := by
    have := sized_string hsz (j := 1) (t := 9) rfl rfl
    simpa [reachBytes] using this
  rw [ba_of1 s1]
  exact encodes_ok _ _ _ l2 l3 hd0 ha0 hg2 hg3 hT hl (by rw [ba_len]; omega) (fun w' hb => ⟨rfl, hb⟩)
theorem encodes_holds : YtlmhhgemiknhdaaGreatDoor.Rows.ProofEncodesSaid :=
  OpenClaim.holds_of_wide 10 Tryz.f10 rfl rfl rfl rfl rfl rfl rfl ⟨rfl, rfl, rfl, rfl, rfl⟩ rfl rfl rfl rfl rfl (by kernel_rfl) Tryz.func10 (by kernel_rfl)
    (of_decide_eq_true (by kernel_rfl)) (by unfold Func.isWrapper; first | (rw [if_pos (by decide +kernel)]; kernel_rfl) | (rw [if_neg (by decide +kernel)]; exact ⟨rfl, rfl⟩))
    (fun os started H enc _ => encodes_lifted os started H enc)
namespace YtlmhhgemiknhdaaGreatDoor
theorem encodes_card : Rows.ProofEncodesCardSaid :=
  Claim7.holds_tied_plain_at .later [] [.data, .data, .data, .sentinel, .sentinel] true Rows.proofEncodesCard.stood.harness true
    encodes_holds (fun _ h => by cases h) (by kernel_rfl) (fun _ h => by cases h) proofEncodes_row_tie rfl ⟨rfl, rfl⟩ (by kernel_rfl) rfl
    (fun f fn hf hfn => by
      obtain rfl : f = 10 := Option.some.inj ((show Tryz.prog.funcNamed Tryz.f10.name = some 10 by kernel_rfl).symm.trans hf) |>.symm
      obtain rfl : fn = Tryz.f10 := (Option.some.inj (Tryz.func10.symm.trans hfn)).symm
      exact ⟨by kernel_rfl, fun j t ht => by
        rw [Tryz.params10] at ht
        have hm : t ∈ [34, 9, 27, 27] := by simpa using Array.mem_of_getElem? ht
        have hall : ([34, 9, 27, 27].all fun u => !Tryz.prog.wantsStandIn u) = true := by kernel_rfl
        exact (show Tryz.prog.wantsStandIn t = false by simpa using List.all_eq_true.1 hall t hm)⟩)
    (by kernel_rfl)
#print axioms encodes_card
end YtlmhhgemiknhdaaGreatDoor
end Go.Proofs
