/- ShMem: a part of the proof of the seat's statements: lemmas about the given translation and plain laws. No condition of its own. -/
import Derived.Test.YtefjibjojkjiiaaShOps
import Derived.Below
set_option linter.all false
/- Memory: a slice that the call itself has made; append of one new row. -/
namespace Go.Sh
open Go Go.RowKit
variable {P : Program} {K : Value → World → Prop} {w : World}

theorem grownBy_trans {w a b : World} {row : Option Nat} (h : w.grownBy a row) (k : a.grownBy b row) : w.grownBy b row :=
  ⟨k.os.trans h.os, k.tape.trans h.tape, k.output.trans h.output, Nat.le_trans h.size k.size, fun i hi hr => (k.block i (Nat.lt_of_lt_of_le hi h.size) hr).trans (h.block i hi hr)⟩

/-- append of one element whose cells have just been laid -/
theorem oM_append_new {t ty e base n : Nat} {i : TypeInfo} {z v : Value} {cs : Array Value} {xs : List Value} (hu : P.underlying t = some (.slice e)) (hi : P.info? e = some i) (hz : i.zero = some z)
    (hsz : i.size = cs.size) (hzs : z.cells.size = cs.size) (hpos : 0 < cs.size) (h1 : ∀ u ∈ cs.toList, u.oneCell' = true) (hown : w.ownsRow base e cs.size v n xs) (hbase : base ≤ w.heap.size)
    (hn : n + 1 ≤ maxLen) (hb : (n + 1) * i.bytes ≤ 140737488355328)
    (k : ∀ v' w', w'.ownsRow base e cs.size v' (n + 1) (xs ++ cs.toList) → w.grownBy w' v.ownBlock → K v' w') :
    oM P (.call { callee := .builtin .append, args := #[.tmp 0, .tmp 1], argTypes := #[t, t] }) ty [v, .slice (some ⟨w.heap.size, 0, none⟩) 1 1] K (w.alloc (.cells cs e)) := by
  obtain ⟨v', w', hrun, ho, hg, _⟩ := run_append_own (P := P) (w := w.alloc (.cells cs e)) base t ty e i z cs.size i.bytes hu hi hz hsz rfl hzs hpos v n xs (hown.alloc _)
    ⟨w.heap.size, 0, none⟩ 1 1 cs.toList (by simp) (by
      intro j u hj
      have hh : (w.alloc (.cells cs e)).heap[w.heap.size]? = some (.cells cs e) := by
        show (w.heap.push _)[w.heap.size]? = _
        simp
      have ha : (⟨w.heap.size, 0, none⟩ : Addr).add j = ⟨w.heap.size, j, none⟩ := by
        unfold Addr.add
        split
        · rename_i h0; rw [h0]
        · simp
      rw [ha]
      unfold World.cell?
      rw [hh]
      simpa using hj) h1 hn hb (by simp; omega)
  rw [oM_value (S := Builtin.append_ #[t, t] ty #[v, .slice (some ⟨w.heap.size, 0, none⟩) 1 1]) (by simp [xop, execOp, evalL, evE, resolve, invoke, builtin]), hrun, ok_iff]
  exact k v' w' ho (grownBy_trans (World.grownBy_alloc w _ _) hg)
@[go_sem] theorem oM_len_slice' (t T : TypeId) (a : Option Addr) (n c : Nat) (h : P.underlying t = some (.slice (P.elem t))) : oM P (.call { callee := .builtin .len, args := #[.tmp 0], argTypes := #[t] }) T [.slice a n c] = pureM (.int .i64 n) := by
  funext K w
  have hr := run_len_slice (P := P) (w := w) t T a n c h
  rw [oM_value (S := Builtin.len_ #[t] T #[.slice a n c]) (by simp [xop, execOp, evalL, evE, resolve, invoke, builtin]), hr, ok_iff]
  rfl
end Go.Sh
