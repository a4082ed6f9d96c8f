/- TicketBlind: Explain finds the only blinding with which another honest session of the issuer leads to the same ticket and spend, for every case within the limits. -/
import Derived.Test.YtpfjmfgnlpnflaaGreatDoorZbf
set_option linter.all false
set_option maxRecDepth 100000
namespace Go.Proofs
open Go Go.Sh Go.RowKit Go.Lib CodeSpec TkSpec FdSpec Go.ChangeShapes Go.WideShapes Go.ChangeAt
set_option maxRecDepth 100000 in
theorem blind_lifted (os : Os) (started : os.Started) (H : Type) (enc : TypeId × Value → H) :
    ReturnsInHanded {} Tryz.checked os 8 .any (fun w args => (YtpfjmfgnlpnflaaGreatDoor.Rows.ticketBlindSpec.pre enc Tryz.prog Tryz.f8 [] false w args ∧ laidMetH Tryz.prog laidList w) ∧ sizedMet enc Tryz.prog Tryz.f8 (OpenSpec.ofChange YtpfjmfgnlpnflaaGreatDoor.Rows.ticketBlindSpec) false w args)
      (YtpfjmfgnlpnflaaGreatDoor.Rows.ticketBlindSpec.post enc Tryz.prog Tryz.f8 false true false false) := by
  refine law_lifted_laid (C := Tryz.checked) (tb := 4) own started (by kernel_rfl) Tryz.func8 laidOut rfl Tryz.underlying4 (by kernel_rfl) rfl (fun ds h => by
      rw [Tryz.params8] at h
      match ds, h with
      | [d1, d2, d3, d4, d5, d6], _ => rfl)
    (ChangeSpec.witness_shaped (enc := enc) (C := Tryz.checked) (os := os) (X := fun w _ => laidMetH Tryz.prog laidList w) false (World.doorLaid Tryz.prog 400 os) #[.agg #[.int .i64 0, .slice none 0 0, .int .i64 0, .int .i64 0, .int .i64 0, .slice none 0 0, .int .i64 0, .int .i64 0, .int .i64 0, .slice none 0 0], .int .i64 0, .slice none 0 0, .int .i64 0, .int .i64 0, .agg #[.int .i64 0, .int .i64 0, .int .i64 0, .slice none 0 0]] 8 rfl (World.shaped_of_RefB (by kernel_rfl) (by kernel_rfl)) (by kernel_rfl) (by kernel_rfl) (by kernel_rfl) (door_met os _)) ?_
  intro W base args ds p hval hA hsz hlt hL
  rw [Tryz.params8] at hA hval hsz
  have hl := laid_of hL
  have hT := db_of hL
  obtain ⟨v0, d0, vs, ds, p0, q0, rfl, rfl, h0, hB0, rfl⟩ := trodL_cons hA
  obtain ⟨c0, mv0, av0, yv0, rfl, hs0⟩ := open_cas (hval 0 63 v0 rfl rfl) h0
  obtain ⟨v1, d1, vs, ds, p1, q1, rfl, rfl, h1, hB1, rfl⟩ := trodL_cons hB0
  obtain ⟨n1, rfl, rfl, rfl, wn1⟩ := open_int Tryz.underlying3 (hval 1 3 v1 rfl rfl) h1
  obtain ⟨v2, d2, vs, ds, p2, q2, rfl, rfl, h2, hB2, rfl⟩ := trodL_cons hB1
  obtain ⟨l2, hs2⟩ := open_list (hval 2 22 v2 rfl rfl) h2
  obtain ⟨v3, d3, vs, ds, p3, q3, rfl, rfl, h3, hB3, rfl⟩ := trodL_cons hB2
  obtain ⟨n3, rfl, rfl, rfl, wn3⟩ := open_int Tryz.underlying3 (hval 3 3 v3 rfl rfl) h3
  obtain ⟨v4, d4, vs, ds, p4, q4, rfl, rfl, h4, hB4, rfl⟩ := trodL_cons hB3
  obtain ⟨n4, rfl, rfl, rfl, wn4⟩ := open_int Tryz.underlying3 (hval 4 3 v4 rfl rfl) h4
  obtain ⟨v5, d5, vs, ds, p5, q5, rfl, rfl, h5, hB5, rfl⟩ := trodL_cons hB4
  obtain ⟨s5, x5, rfl, hs5⟩ := open_bld (hval 5 45 v5 rfl rfl) h5
  obtain ⟨rfl, rfl, rfl⟩ := trodL0 hB5
  exact blind_ok c0 n1 n3 n4 s5 (intR wn1) (intR wn3) (intR wn4) hT hl hs0 hs2 hs5 (fun w' hb => ⟨rfl, hb⟩)
theorem blind_holds : YtpfjmfgnlpnflaaGreatDoor.Rows.TicketBlindSaid :=
  OpenClaim.holds_of_wide 8 Tryz.f8 rfl rfl rfl rfl rfl rfl rfl ⟨rfl, rfl, rfl, rfl, rfl⟩ rfl rfl rfl rfl rfl (by kernel_rfl) Tryz.func8 (by kernel_rfl)
    (of_decide_eq_true (by kernel_rfl)) (by unfold Func.isWrapper; first | (rw [if_pos (by decide +kernel)]; kernel_rfl) | (rw [if_neg (by decide +kernel)]; exact ⟨rfl, rfl⟩))
    (fun os started H enc _ => blind_lifted os started H enc)
namespace YtpfjmfgnlpnflaaGreatDoor
theorem blind_card : Rows.TicketBlindCardSaid :=
  Claim7.holds_tied_plain_at .later [] [.data, .data, .data] true Rows.ticketBlindCard.stood.harness true
    blind_holds (fun _ h => by cases h) (by kernel_rfl) (fun _ h => by cases h) ticketBlind_row_tie rfl ⟨rfl, rfl⟩ (by kernel_rfl) rfl
    (fun f fn hf hfn => by
      obtain rfl : f = 8 := Option.some.inj ((show Tryz.prog.funcNamed Tryz.f8.name = some 8 by kernel_rfl).symm.trans hf) |>.symm
      obtain rfl : fn = Tryz.f8 := (Option.some.inj (Tryz.func8.symm.trans hfn)).symm
      exact ⟨by kernel_rfl, fun j t ht => by
        rw [Tryz.params8] at ht
        have hm : t ∈ [63, 3, 22, 3, 3, 45] := by simpa using Array.mem_of_getElem? ht
        have hall : ([63, 3, 22, 3, 3, 45].all fun u => !Tryz.prog.wantsStandIn u) = true := by kernel_rfl
        exact (show Tryz.prog.wantsStandIn t = false by simpa using List.all_eq_true.1 hall t hm)⟩)
    (by kernel_rfl)
#print axioms blind_card
end YtpfjmfgnlpnflaaGreatDoor
end Go.Proofs
