/- LexPl: a part of the proof of the seat's statements: lemmas about the given translation and plain laws. No condition of its own. -/
import Derived.Test.YtilcjegkodkpiaaDoorLex15
import Derived.Test.YtilcjegkodkpiaaDoorShStr
import Derived.Test.YtilcjegkodkpiaaDoorLexLaw5
set_option linter.all false
namespace Go.Proofs
open Go Go.Sh Go.RowKit Go.Lib LexSpec
set_option linter.unusedSimpArgs false
def pl (x : List UInt8) (k : Nat) : Bool := decide (x.length ≤ 400) && (x.take k).all isPlain
theorem pl_zero (x : List UInt8) : pl x 0 = decide (x.length ≤ 400) := by simp [pl]
theorem pl_succ (s : ByteArray) (k : Nat) (h : k < s.size) : pl s.data.toList (k + 1) = (pl s.data.toList k && isPlain (byteAt s k)) := by
  unfold pl
  rw [take_snoc s k h, List.all_append, Bool.and_assoc]
  simp
theorem spanN_of_all (p : UInt8 → Bool) (l : List UInt8) (h : ∀ c ∈ l, p c = true) : spanN p l = l.length := by
  unfold spanN
  induction l with
  | nil => rfl
  | cons c l ih => simp [h c (by simp), ih (fun d hd => h d (by simp [hd]))]
theorem pl_end (x : List UInt8) : pl x x.length = quoteOk x := by
  unfold pl quoteOk
  rw [List.take_length, Bool.eq_iff_iff]
  simp only [Bool.and_eq_true, decide_eq_true_eq, List.all_eq_true]
  refine ⟨fun ⟨h1, h2⟩ => ⟨h1, ?_⟩, fun ⟨h1, h2⟩ => ⟨h1, spanN_all _ _ h2⟩⟩
  exact spanN_of_all _ _ h2
end Go.Proofs
