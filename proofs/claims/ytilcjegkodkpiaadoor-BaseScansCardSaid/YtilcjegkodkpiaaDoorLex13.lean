/- Lex13: a part of the proof of the seat's statements: lemmas about the given translation and plain laws. No condition of its own. -/
import Derived.Test.YtilcjegkodkpiaaDoorLex12
set_option linter.all false
namespace Go.Proofs
open Go Go.Sh Go.RowKit Go.Lib LexSpec
set_option linter.unusedSimpArgs false
theorem signs_below {w w' : World} (h : signsLaid w) (hw : 0 < w.heap.size) (hb : Below w.heap.size w w') : signsLaid w' := by
  rw [signsLaid, hb.block 0 hw]; exact h
theorem scan_good (s : ByteArray) (ts : List Tok) (hr : scan s.data.toList = .ok ts) (hs : s.size < 2^40) {K : Value → World → Prop} {w : World} (hl : signsLaid w) (hw : 0 < w.heap.size)
   (h : ∀ w' row, Below w.heap.size w w' → signsLaid w' → TokRow w' row ts → K (.tuple #[row, .int .i64 0, .int .i64 0]) w') : callM Tryd.prog 9 #[.string s] K w := by
  refine scan_ok s hs hl hw ?_
  intro w' v hb hm
  rw [hr] at hm
  obtain ⟨row, rfl, ho⟩ := hm
  exact h w' row hb (signs_below hl hw hb) (TokRow.own ho)
theorem scan_bad (s : ByteArray) (p e : Nat) (hr : scan s.data.toList = .error (p, e)) (hs : s.size < 2^40) {K : Value → World → Prop} {w : World} (hl : signsLaid w) (hw : 0 < w.heap.size)
   (h : ∀ w', Below w.heap.size w w' → signsLaid w' → K (.tuple #[.slice none 0 0, .int .i64 p, .int .i64 e]) w') : callM Tryd.prog 9 #[.string s] K w := by
  refine scan_ok s hs hl hw ?_
  intro w' v hb hm
  rw [hr] at hm
  obtain rfl := hm
  exact h w' hb (signs_below hl hw hb)
def ex1 : List Tok := [⟨0, [97, 49], 0, 0⟩, ⟨3, [61], 0, 3⟩, ⟨2, [120, 34, 121], 0, 5⟩, ⟨3, [59], 0, 11⟩]
theorem scan1 : scan [97, 49, 32, 61, 32, 34, 120, 92, 34, 121, 34, 59, 32, 35, 32, 122] = .ok ex1 := by rfl
theorem scan2 : scan [120, 32, 48, 48, 55] = .error (2, 3) := by rfl
theorem scan3 : scan [97, 32, 33, 32, 98] = .error (2, 10) := by rfl
theorem scan4 : scan [34, 97, 98] = .error (0, 2) := by rfl
end Go.Proofs
