/- ShStr: a part of the proof of the seat's statements: lemmas about the given translation and plain laws. No condition of its own. -/
import Derived.Test.YtefjibjojkjiiaaShQ
import Derived.Laws.Small
set_option linter.all false
/- Strings: concatenation as a stepping rule. -/
namespace Go.Sh
open Go
variable {P : Program} {K : Value → World → Prop} {w : World}
@[go_sem] theorem oM_adds (t t' T : TypeId) (a b : ByteArray) : oM P (.binOp .add t (.tmp 0) (.tmp 1) t') T [.string a, .string b] K w = (a.size + b.size ≤ 9223372036854775807 ∧ K (.string (a ++ b)) w) := by
  simp [oM, opM, xop, evalL, evE, go_sem]
  by_cases h : 9223372036854775807 < a.size + b.size
  · rw [if_pos h]
    simp
    omega
  · rw [if_neg h]
    simp
    exact fun _ => by omega
@[go_sem] theorem oM_neb (t t' T : TypeId) (a b : Bool) (h : P.underlying t = some .bool) : oM P (.binOp .neq t (.tmp 0) (.tmp 1) t') T [.bool a, .bool b] = pureM (.bool (!decide (a = b))) := by
  funext K w
  simp [oM, opM, xop, evalL, evE, go_sem, run_neq_bool (P := P) (w := w) t a b h]
  cases a <;> cases b <;> rfl
@[go_sem] theorem oM_eqb (t t' T : TypeId) (a b : Bool) (h : P.underlying t = some .bool) : oM P (.binOp .eql t (.tmp 0) (.tmp 1) t') T [.bool a, .bool b] = pureM (.bool (decide (a = b))) := by
  funext K w
  simp [oM, opM, xop, evalL, evE, go_sem, run_eql_bool (P := P) (w := w) t a b h]
  cases a <;> cases b <;> rfl
theorem ba_append (x y : List UInt8) : (⟨x.toArray⟩ : ByteArray) ++ ⟨y.toArray⟩ = ⟨(x ++ y).toArray⟩ := by
  apply ByteArray.ext
  rw [ByteArray.data_append]
  simp
theorem ba_size (x : List UInt8) : (⟨x.toArray⟩ : ByteArray).size = x.length := rfl
theorem ba_list (x : List UInt8) : (⟨x.toArray⟩ : ByteArray).data.toList = x := rfl
end Go.Sh
