/- ShBuf: a part of the proof of the seat's statements: lemmas about the given translation and plain laws. No condition of its own. -/
import Derived.Test.YtefjibjojkjiiaaShRow2
import Derived.Laws.IdiomStrings
set_option linter.all false
namespace Go.Sh
open Go Go.RowKit
/-- a block of bytes -/
def BufIs (w : World) (g : Nat) (e : TypeId) (l : List UInt8) : Prop := w.heap[g]? = some (.cells (Lib.byteCells l).toArray e (0, 0))
theorem alloc_size (w : World) (o : Obj) : (w.alloc o).heap.size = w.heap.size + 1 := by
  show (w.heap.push o).size = _
  simp
theorem grown_setRow (w : World) (g : Nat) (cs : Array Value) : w.grownBy (w.setRow g cs) (some g) :=
  ⟨rfl, rfl, rfl, by simp [World.setRow], fun i _ hi => setRow_other w g i cs (fun e => hi (by rw [e]))⟩
section
variable {P : Program} {w : World} {K : Value → World → Prop}
theorem makeBytes_at {t T e : TypeId} {i : TypeInfo} (ht : P.underlying t = some (.slice e)) (hi : P.info? e = some i) (hz : i.zero = some (.int .u8 0)) (hs : i.size = 1) (hb : i.bytes = 1) (n : Nat) (hn : n ≤ 1099511627776)
    (k : BufIs (w.alloc (.cells (Lib.byteCells (List.replicate n 0)).toArray e)) w.heap.size e (List.replicate n 0) → K (.slice (some ⟨w.heap.size, 0, none⟩) n n) (w.alloc (.cells (Lib.byteCells (List.replicate n 0)).toArray e))) :
    oM P (.makeSlice t (.tmp 0) (.tmp 1)) T [.int .i64 n, .int .i64 n] K w := by
  rw [oM_makeSlice, run_make w t e i (.int .u8 0) ht hi hz .i64 .i64 n n (by omega) (Int.le_refl _) (by rw [hb]; omega) (by omega), hs]
  have e1 : madeCells (Value.int .u8 0).cells ((n : Int).toNat * 1) = (Lib.byteCells (List.replicate n 0)).toArray := by
    unfold madeCells Lib.byteCells
    apply Array.ext'
    simp only [Int.toNat_natCast, Nat.mul_one, Array.toList_map, Array.toList_range, List.map_replicate]
    apply List.ext_getElem
    · simp
    · intro j h1 h2
      simp [Value.cells, Nat.mod_one]
  rw [e1, Int.toNat_natCast]
  exact k (heap_alloc_new w _)
theorem copyStr_at {t t' T e : TypeId} {g o n c : Nat} {l : List UInt8} (ht : P.underlying t = some (.slice e)) (hs : (P.info? e).map (·.size) = some 1) (hg : BufIs w g e l) (s : List UInt8) (hn : s.length ≤ n) (hfit : o + s.length ≤ l.length)
    (k : ∀ w', BufIs w' g e (l.take o ++ s ++ l.drop (o + s.length)) → w.grownBy w' (some g) → K (.int .i64 s.length) w') :
    oM P (.call { callee := .builtin .copy, args := #[.tmp 0, .tmp 1], argTypes := #[t, t'] }) T [.slice (some ⟨g, o, none⟩) n c, .string ⟨s.toArray⟩] K w := by
  rw [oM_copy, Lib.run_copy_row_string w t t' T e g o n c ⟨s.toArray⟩ _ e ht hs hg hn (by simp [Lib.byteCells]; exact hfit)]
  refine k _ ?_ (grown_setRow _ _ _)
  have := setRow_heap w g _ ((Lib.byteCells l).toArray.toList.take o ++ Lib.byteCells (⟨s.toArray⟩ : ByteArray).data.toList ++ (Lib.byteCells l).toArray.toList.drop (o + (⟨s.toArray⟩ : ByteArray).size)).toArray e (0, 0) hg
  unfold BufIs
  rw [this]
  have e2 : (⟨s.toArray⟩ : ByteArray).size = s.length := rfl
  simp [Lib.byteCells, List.map_take, List.map_drop, e2]
theorem toStr_at {t d T e : TypeId} {g n c : Nat} {l : List UInt8} (hs : P.underlying t = some (.slice e)) (he : P.underlying e = some (.int .u8)) (hd : P.underlying d = some .string) (hg : BufIs w g e l) (hn : n = l.length) (k : K (.string ⟨l.toArray⟩) w) :
    oM P (.convert t d (.tmp 0)) T [.slice (some ⟨g, 0, none⟩) n c] K w := by
  subst hn
  have := run_convert_bytes_back (P := P) w t d e ⟨g, 0, none⟩ c l hs he hd (fun j hj => by
    rw [add_none, Nat.zero_add, cell_of_block hg]
    simp [Lib.byteCells, hj])
  rw [rM_of (S := convert t d (.slice (some ⟨g, 0, none⟩) l.length c)) rfl, this]
  exact k
theorem sliceFrom_at {t T : TypeId} {g o n c : Nat} {sz : Nat} (ht : P.underlying t = some (.slice (P.elem t))) (hs : ∀ w, (sizeOf (P.elem t)).run P w = .ok sz w) (i : Nat) (hi : i ≤ n) (hc : i < c) (k : K (.slice (some ⟨g, o + i * sz, none⟩) (n - i) (c - i)) w) :
    oM P (.slice t (.tmp 0) (some (.tmp 1)) none none) T [.slice (some ⟨g, o, none⟩) n c, .int .i64 i] K w := by
  rw [oM_sliceFrom, run_sliceAt_slice w t _ _ _ _ ht, run_slice_l w t _ n c ht .i64 i (by omega) (by omega), hs]
  have : ¬ c = i := by omega
  simp only [Result.andThen_ok, sliced, Int.toNat_natCast, if_neg this, Option.map_some, add_none]
  exact k
theorem sliceTo_at {t T : TypeId} {a : Option Addr} {n c : Nat} {sz : Nat} (ht : P.underlying t = some (.slice (P.elem t))) (hs : ∀ w, (sizeOf (P.elem t)).run P w = .ok sz w) (i : Nat) (hi : i ≤ c) (k : K (.slice a i c) w) :
    oM P (.slice t (.tmp 0) none (some (.tmp 1)) none) T [.slice a n c, .int .i64 i] K w := by
  rw [oM_sliceTo, run_sliceAt_slice w t _ _ _ _ ht, run_slice_h w t _ n c ht .i64 i (by omega) (by omega), hs]
  have e : a.map (fun x => x.add (0 * sz)) = a := by
    cases a with
    | none => rfl
    | some a => simp [Addr.add]
  simp only [Result.andThen_ok, sliced, Int.toNat_natCast, Nat.sub_zero, e, ite_self]
  exact k
end
end Go.Sh
