/- TicketLends: the chain in which each ticket is spent for the next one leads to the challenge, and to no other one, for at most five issuings within the limits. -/
import Derived.Test.YtpfjmfgnlpnflaaGreatDoorZlf
set_option linter.all false
set_option maxRecDepth 100000
namespace Go.Proofs
open Go Go.Sh Go.RowKit Go.Lib CodeSpec TkSpec FdSpec Go.ChangeShapes Go.WideShapes Go.ChangeAt
set_option maxRecDepth 100000 in
theorem lends_lifted (os : Os) (started : os.Started) (H : Type) (enc : TypeId × Value → H) :
    ReturnsInHanded {} Tryz.checked os 7 .any (fun w args => (YtpfjmfgnlpnflaaGreatDoor.Rows.ticketLendsSpec.pre enc Tryz.prog Tryz.f7 [] false w args ∧ laidMetH Tryz.prog laidList w) ∧ sizedMet enc Tryz.prog Tryz.f7 (OpenSpec.ofChange YtpfjmfgnlpnflaaGreatDoor.Rows.ticketLendsSpec) false w args)
      (YtpfjmfgnlpnflaaGreatDoor.Rows.ticketLendsSpec.post enc Tryz.prog Tryz.f7 false true false false) := by
  refine law_lifted_laid (C := Tryz.checked) (tb := 4) own started (by kernel_rfl) Tryz.func7 laidOut rfl Tryz.underlying4 (by kernel_rfl) rfl (fun ds h => by
      rw [Tryz.params7] at h
      match ds, h with
      | [d1, d2, d3, d4, d5, d6], _ => rfl)
    (ChangeSpec.witness_shaped (enc := enc) (C := Tryz.checked) (os := os) (X := fun w _ => laidMetH Tryz.prog laidList w) false (World.doorLaid Tryz.prog 400 os) #[.slice none 0 0, .slice none 0 0, .int .i64 0, .int .i64 0, .int .u8 0, .string ByteArray.empty] 8 rfl (World.shaped_of_RefB (by kernel_rfl) (by kernel_rfl)) (by kernel_rfl) (by kernel_rfl) (by kernel_rfl) (door_met os _)) ?_
  intro W base args ds p hval hA hsz hlt hL
  rw [Tryz.params7] at hA hval hsz
  have hl := laid_of hL
  have hT := db_of hL
  obtain ⟨v0, d0, vs, ds, p0, q0, rfl, rfl, h0, hB0, rfl⟩ := trodL_cons hA
  obtain ⟨l0, hs0⟩ := open_cass (hval 0 83 v0 rfl rfl) h0
  obtain ⟨v1, d1, vs, ds, p1, q1, rfl, rfl, h1, hB1, rfl⟩ := trodL_cons hB0
  obtain ⟨l1, hs1⟩ := open_strs (hval 1 84 v1 rfl rfl) h1
  obtain ⟨v2, d2, vs, ds, p2, q2, rfl, rfl, h2, hB2, rfl⟩ := trodL_cons hB1
  obtain ⟨n2, rfl, rfl, rfl, wn2⟩ := open_int Tryz.underlying3 (hval 2 3 v2 rfl rfl) h2
  obtain ⟨v3, d3, vs, ds, p3, q3, rfl, rfl, h3, hB3, rfl⟩ := trodL_cons hB2
  obtain ⟨n3, rfl, rfl, rfl, wn3⟩ := open_int Tryz.underlying3 (hval 3 3 v3 rfl rfl) h3
  obtain ⟨v4, d4, vs, ds, p4, q4, rfl, rfl, h4, hB4, rfl⟩ := trodL_cons hB3
  obtain ⟨n4, rfl, rfl, rfl, wn4⟩ := open_int Tryz.underlying5 (hval 4 5 v4 rfl rfl) h4
  obtain ⟨v5, d5, vs, ds, p5, q5, rfl, rfl, h5, hB5, rfl⟩ := trodL_cons hB4
  obtain ⟨s5, rfl, rfl, rfl, ws5⟩ := ChangeMaps.open_string Tryz.underlying9 (hval 5 9 v5 rfl rfl) h5
  obtain ⟨rfl, rfl, rfl⟩ := trodL0 hB5
  have r5 : s5.size ≤ 140737488351232 := by
    have := sized_string hsz (j := 5) (t := 9) rfl rfl
    simpa [reachBytes] using this
  rw [ba_of1 s5]
  exact lends_law l0 l1 n2 n3 n4 _ (intR wn2) (intR wn3) (u8R wn4) (by rw [ba_len]; omega) hT hl hs0 hs1 (fun w' hb => ⟨rfl, hb⟩)
theorem lends_holds : YtpfjmfgnlpnflaaGreatDoor.Rows.TicketLendsSaid :=
  OpenClaim.holds_of_wide 7 Tryz.f7 rfl rfl rfl rfl rfl rfl rfl ⟨rfl, rfl, rfl, rfl, rfl⟩ rfl rfl rfl rfl rfl (by kernel_rfl) Tryz.func7 (by kernel_rfl)
    (of_decide_eq_true (by kernel_rfl)) (by unfold Func.isWrapper; first | (rw [if_pos (by decide +kernel)]; kernel_rfl) | (rw [if_neg (by decide +kernel)]; exact ⟨rfl, rfl⟩))
    (fun os started H enc _ => lends_lifted os started H enc)
namespace YtpfjmfgnlpnflaaGreatDoor
theorem lends_card : Rows.TicketLendsCardSaid :=
  Claim7.holds_tied_plain_at .later [] [.data, .data, .data] true Rows.ticketLendsCard.stood.harness true
    lends_holds (fun _ h => by cases h) (by kernel_rfl) (fun _ h => by cases h) ticketLends_row_tie rfl ⟨rfl, rfl⟩ (by kernel_rfl) rfl
    (fun f fn hf hfn => by
      obtain rfl : f = 7 := Option.some.inj ((show Tryz.prog.funcNamed Tryz.f7.name = some 7 by kernel_rfl).symm.trans hf) |>.symm
      obtain rfl : fn = Tryz.f7 := (Option.some.inj (Tryz.func7.symm.trans hfn)).symm
      exact ⟨by kernel_rfl, fun j t ht => by
        rw [Tryz.params7] at ht
        have hm : t ∈ [83, 84, 3, 3, 5, 9] := by simpa using Array.mem_of_getElem? ht
        have hall : ([83, 84, 3, 3, 5, 9].all fun u => !Tryz.prog.wantsStandIn u) = true := by kernel_rfl
        exact (show Tryz.prog.wantsStandIn t = false by simpa using List.all_eq_true.1 hall t hm)⟩)
    (by kernel_rfl)
#print axioms lends_card
end YtpfjmfgnlpnflaaGreatDoor
end Go.Proofs
