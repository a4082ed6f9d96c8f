/- BaseArms: for every list of acts and scheduled crash, the law returns true. No condition beyond the row's own. -/
import Derived.Test.YtefjibjojkjiiaaDkO
import Derived.Test.YtefjibjojkjiiaaDkN6b
set_option linter.all false
namespace Go.Proofs
open Go Go.Sh Go.RowKit DkSpec Go.ChangeShapes Go.WideShapes Go.ChangeAt
set_option maxRecDepth 100000 in
theorem arms_lifted (os : Os) (started : os.Started) (H : Type) (enc : TypeId × Value → H) :
    ReturnsInHanded {} Try.checked os 6 .any (Ytefjibjojkjiiaa.Rows.baseArmsSpec.pre6 enc Try.prog Try.f6 [] false)
      (Ytefjibjojkjiiaa.Rows.baseArmsSpec.post enc Try.prog Try.f6 false true false false) := by
  refine law_lifted (C := Try.checked) (tb := 4) own started (by kernel_rfl) Try.func6 laidOut rfl Try.underlying4 (by kernel_rfl) rfl (fun ds h => by
      rw [Try.params6] at h
      match ds, h with
      | [d1, d2, d3], _ => rfl)
    (ChangeSpec.witness6 (enc := enc) (C := Try.checked) false ⟨#[], #[.slice none 0 0, .int .i64 0, .slice none 0 0], []⟩ 8 (by kernel_rfl) (by kernel_rfl) (by kernel_rfl) (by kernel_rfl)) ?_
  intro W base args ds p hval hA hsz hlt
  rw [Try.params6] at hA hval hsz
  obtain ⟨v0, d0, vs, ds, p0, q0, rfl, rfl, h0, hB0, rfl⟩ := trodL_cons hA
  obtain ⟨l0, hr0⟩ := open_acts (hval 0 22 v0 rfl rfl) h0
  obtain ⟨v1, d1, vs, ds, p1, q1, rfl, rfl, h1, hB1, rfl⟩ := trodL_cons hB0
  obtain ⟨n1, rfl, rfl, rfl, wn1⟩ := open_int Try.underlying3 (hval 1 3 v1 rfl rfl) h1
  obtain ⟨v2, d2, vs, ds, p2, q2, rfl, rfl, h2, hB2, rfl⟩ := trodL_cons hB1
  obtain ⟨l2, hr2, hkr2⟩ := open_keep (hval 2 31 v2 rfl rfl) h2
  obtain ⟨rfl, rfl, rfl⟩ := trodL0 hB2
  exact law6_ok hr0 hr2 hkr2 (fun w' hb => ⟨rfl, hb⟩)
namespace Ytefjibjojkjiiaa
theorem arms_holds : Rows.BaseArmsSaid :=
  OpenClaim.holds_of_wide 6 Try.f6 rfl rfl rfl rfl rfl rfl rfl ⟨rfl, rfl, rfl, rfl, rfl⟩ rfl rfl rfl rfl rfl (by kernel_rfl) Try.func6 (by kernel_rfl)
    (of_decide_eq_true (by kernel_rfl)) (by unfold Func.isWrapper; first | (rw [if_pos (by decide +kernel)]; kernel_rfl) | (rw [if_neg (by decide +kernel)]; exact ⟨rfl, rfl⟩))
    (fun os started H enc _ => arms_lifted os started H enc)
#print axioms arms_holds
end Ytefjibjojkjiiaa
end Go.Proofs
