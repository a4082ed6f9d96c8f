/- The law ProofOpens of the given program returns true for every argument, and nothing that was there has turned. Conditions: those of the card alone. -/
import Derived.Test.YtlmhhgemiknhdaaGreatDoorPoe
set_option linter.all false
namespace Go.Proofs
open Go Go.Sh Go.RowKit Go.Lib CodeSpec TkSpec FdSpec PrSpec Go.ChangeShapes Go.WideShapes Go.ChangeAt
set_option maxRecDepth 100000 in
theorem opens_lifted (os : Os) (started : os.Started) (H : Type) (enc : TypeId × Value → H) :
    ReturnsInHanded {} Tryz.checked os 8 .any (fun w args => (YtlmhhgemiknhdaaGreatDoor.Rows.proofOpensSpec.pre enc Tryz.prog Tryz.f8 [] false w args ∧ laidMetH Tryz.prog laidList w) ∧ sizedMet enc Tryz.prog Tryz.f8 (OpenSpec.ofChange YtlmhhgemiknhdaaGreatDoor.Rows.proofOpensSpec) false w args)
      (YtlmhhgemiknhdaaGreatDoor.Rows.proofOpensSpec.post enc Tryz.prog Tryz.f8 false true false false) := by
  refine law_lifted_laid (C := Tryz.checked) (tb := 4) own started (by kernel_rfl) Tryz.func8 laidOut rfl Tryz.underlying4 (by kernel_rfl) rfl (fun ds h => by
      rw [Tryz.params8] at h
      match ds, h with
      | [d1, d2, d3, d4, d5], _ => rfl)
    (ChangeSpec.witness_shaped (enc := enc) (C := Tryz.checked) (os := os) (X := fun w _ => laidMetH Tryz.prog laidList w) false (World.doorLaid Tryz.prog 400 os) #[.agg #[.int .i64 0, .int .i64 0, .int .i64 0, .slice none 0 0, .int .i64 0], .int .i64 0, .slice none 0 0, .slice none 0 0, .slice none 0 0] 8 rfl (World.shaped_of_RefB (by kernel_rfl) (by kernel_rfl)) (by kernel_rfl) (by kernel_rfl) (by kernel_rfl) (door_met os _)) ?_
  intro W base args ds p hval hA hsz hlt hL
  rw [Tryz.params8] at hA hval hsz
  have hl := laid_of hL
  have hT := db_of hL
  obtain ⟨v0, d0, vs, ds, p0, q0, rfl, rfl, h0, hB0, rfl⟩ := trodL_cons hA
  obtain ⟨s0, x0, rfl, hs0⟩ := open_stp hT (hval 0 26 v0 rfl rfl) h0
  obtain ⟨v1, d1, vs, ds, p1, q1, rfl, rfl, h1, hB1, rfl⟩ := trodL_cons hB0
  obtain ⟨n1, rfl, rfl, rfl, wn1⟩ := open_int Tryz.underlying3 (hval 1 3 v1 rfl rfl) h1
  obtain ⟨v2, d2, vs, ds, p2, q2, rfl, rfl, h2, hB2, rfl⟩ := trodL_cons hB1
  obtain ⟨l2, hs2⟩ := open_list (hval 2 24 v2 rfl rfl) h2
  obtain ⟨v3, d3, vs, ds, p3, q3, rfl, rfl, h3, hB3, rfl⟩ := trodL_cons hB2
  obtain ⟨l3, hb3⟩ := open_bools (hval 3 61 v3 rfl rfl) h3
  obtain ⟨v4, d4, vs, ds, p4, q4, rfl, rfl, h4, hB4, rfl⟩ := trodL_cons hB3
  obtain ⟨l4, hi4⟩ := open_ci (hval 4 24 v4 rfl rfl) h4
  obtain ⟨rfl, rfl, rfl⟩ := trodL0 hB4
  exact opens_ok s0 n1 l2 l3 l4 hs0 (intR wn1) hs2 hb3 hi4 hl (fun w' hb => ⟨rfl, hb⟩)
theorem opens_holds : YtlmhhgemiknhdaaGreatDoor.Rows.ProofOpensSaid :=
  OpenClaim.holds_of_wide 8 Tryz.f8 rfl rfl rfl rfl rfl rfl rfl ⟨rfl, rfl, rfl, rfl, rfl⟩ rfl rfl rfl rfl rfl (by kernel_rfl) Tryz.func8 (by kernel_rfl)
    (of_decide_eq_true (by kernel_rfl)) (by unfold Func.isWrapper; first | (rw [if_pos (by decide +kernel)]; kernel_rfl) | (rw [if_neg (by decide +kernel)]; exact ⟨rfl, rfl⟩))
    (fun os started H enc _ => opens_lifted os started H enc)
namespace YtlmhhgemiknhdaaGreatDoor
theorem opens_card : Rows.ProofOpensCardSaid :=
  Claim7.holds_tied_plain_at .later [] [.data, .data, .data, .sentinel, .sentinel] true Rows.proofOpensCard.stood.harness true
    opens_holds (fun _ h => by cases h) (by kernel_rfl) (fun _ h => by cases h) proofOpens_row_tie rfl ⟨rfl, rfl⟩ (by kernel_rfl) rfl
    (fun f fn hf hfn => by
      obtain rfl : f = 8 := Option.some.inj ((show Tryz.prog.funcNamed Tryz.f8.name = some 8 by kernel_rfl).symm.trans hf) |>.symm
      obtain rfl : fn = Tryz.f8 := (Option.some.inj (Tryz.func8.symm.trans hfn)).symm
      exact ⟨by kernel_rfl, fun j t ht => by
        rw [Tryz.params8] at ht
        have hm : t ∈ [26, 3, 24, 61, 24] := by simpa using Array.mem_of_getElem? ht
        have hall : ([26, 3, 24, 61, 24].all fun u => !Tryz.prog.wantsStandIn u) = true := by kernel_rfl
        exact (show Tryz.prog.wantsStandIn t = false by simpa using List.all_eq_true.1 hall t hm)⟩)
    (by kernel_rfl)
#print axioms opens_card
end YtlmhhgemiknhdaaGreatDoor
end Go.Proofs
