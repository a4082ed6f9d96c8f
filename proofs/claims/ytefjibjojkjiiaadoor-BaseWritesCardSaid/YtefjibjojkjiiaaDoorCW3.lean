/- BaseWrites returns true for every input: writes_card is the tied card of the given row. No condition beyond the row's own. -/
import Derived.Test.YtefjibjojkjiiaaDoorCK2
import Derived.Test.YtefjibjojkjiiaaDoorCL9
set_option linter.all false
namespace Go.Proofs
open Go Go.Sh Go.RowKit Go.Lib CodeSpec Go.ChangeShapes Go.WideShapes Go.ChangeAt
set_option maxRecDepth 100000 in
theorem writes_lifted (os : Os) (started : os.Started) (H : Type) (enc : TypeId × Value → H) :
    ReturnsInHanded {} Tryd.checked os 3 .any (fun w args => (YtefjibjojkjiiaaDoor.Rows.baseWritesSpec.pre enc Tryd.prog Tryd.f3 [] false w args ∧ laidMetH Tryd.prog laidList w) ∧ sizedMet enc Tryd.prog Tryd.f3 (OpenSpec.ofChange YtefjibjojkjiiaaDoor.Rows.baseWritesSpec) false w args)
      (YtefjibjojkjiiaaDoor.Rows.baseWritesSpec.post enc Tryd.prog Tryd.f3 false true false false) := by
  refine law_lifted_laid (C := Tryd.checked) (tb := 4) own started (by kernel_rfl) Tryd.func3 laidOut rfl Tryd.underlying4 (by kernel_rfl) rfl (fun ds h => by
      rw [Tryd.params3] at h
      match ds, h with
      | [d1], _ => rfl)
    (ChangeSpec.witness_shaped (enc := enc) (C := Tryd.checked) (os := os) (X := fun w _ => laidMetH Tryd.prog laidList w) false (World.doorLaid Tryd.prog 400 os) #[.agg #[.int .i64 0, .int .i64 0, .string ByteArray.empty, .slice none 0 0, .slice none 0 0]] 8 rfl (World.shaped_of_RefB (by kernel_rfl) (by kernel_rfl)) (by kernel_rfl) (by kernel_rfl) (by kernel_rfl) (door_met os _)) ?_
  intro W base args ds p hval hA hsz hlt hL
  rw [Tryd.params3] at hA hval hsz
  have hw : 6 ≤ W.heap.size := heap6 hL
  have hl := laid_of hL hw
  obtain ⟨v0, d0, vs, ds, p0, q0, rfl, rfl, h0, hB0, rfl⟩ := trodL_cons hA
  obtain ⟨cs0, x0, rfl, hc0⟩ := open_val (hval 0 25 v0 rfl rfl) h0
  obtain ⟨rfl, rfl, rfl⟩ := trodL0 hB0
  exact law3_ok x0 cs0 hl hc0 (fun w' hb => ⟨rfl, hb⟩)
theorem writes_holds : YtefjibjojkjiiaaDoor.Rows.BaseWritesSaid :=
  OpenClaim.holds_of_wide 3 Tryd.f3 rfl rfl rfl rfl rfl rfl rfl ⟨rfl, rfl, rfl, rfl, rfl⟩ rfl rfl rfl rfl rfl (by kernel_rfl) Tryd.func3 (by kernel_rfl)
    (of_decide_eq_true (by kernel_rfl)) (by unfold Func.isWrapper; first | (rw [if_pos (by decide +kernel)]; kernel_rfl) | (rw [if_neg (by decide +kernel)]; exact ⟨rfl, rfl⟩))
    (fun os started H enc _ => writes_lifted os started H enc)
namespace YtefjibjojkjiiaaDoor
theorem writes_card : Rows.BaseWritesCardSaid :=
  Claim7.holds_tied_plain_at .later [] [.data, .data, .data, .sentinel, .sentinel] true Rows.baseWritesCard.stood.harness true
    writes_holds (fun _ h => by cases h) (by kernel_rfl) (fun _ h => by cases h) baseWrites_row_tie rfl ⟨rfl, rfl⟩ (by kernel_rfl) rfl
    (fun f fn hf hfn => by
      obtain rfl : f = 3 := Option.some.inj ((show Tryd.prog.funcNamed Tryd.f3.name = some 3 by kernel_rfl).symm.trans hf) |>.symm
      obtain rfl : fn = Tryd.f3 := (Option.some.inj (Tryd.func3.symm.trans hfn)).symm
      exact ⟨by kernel_rfl, fun j t ht => by
        rw [Tryd.params3] at ht
        have hm : t ∈ [25] := by simpa using Array.mem_of_getElem? ht
        have hall : ([25].all fun u => !Tryd.prog.wantsStandIn u) = true := by kernel_rfl
        exact (show Tryd.prog.wantsStandIn t = false by simpa using List.all_eq_true.1 hall t hm)⟩)
    (by kernel_rfl)
#print axioms writes_card
end YtefjibjojkjiiaaDoor
end Go.Proofs
