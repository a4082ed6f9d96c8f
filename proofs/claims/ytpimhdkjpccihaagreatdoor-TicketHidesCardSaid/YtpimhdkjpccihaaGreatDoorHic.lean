/- Parts of the proof of the seat's statements (ShKn2, TkC, ShelfI, TkD, TkE, TkF, TkG, TkH, TkI, TkJ, TkK, TkL, TkM, TkN, HTd, HTc, ShelfT, CodeSpec, TcB, TcE, TcR, TcR2, TcI, TkO, TkP0, TkP, HTa, HSha, ShaSpec, ShW, SaA, ShArr, SaB): lemmas about the given translation and plain laws. No condition of their own. -/
import Derived.Test.YtpimhdkjpccihaaGreatDoorHib
import Derived.Shelf.Spec.SlicesInsertGrow
import Derived.Test.YtpimhdkjpccihaaGreatDoorProg
import Derived.Shelf.Strings.Builder1
import Derived.Shelf.Small.Strs
import Derived.Shelf.Small.Wraps
import Derived.Shelf.Strings.BuilderF
import Derived.Shelf.Strings.BuilderK
import Derived.Shelf.Strconv.Atoi
import Derived.Shelf.Strconv.Itoa0
import Derived.Shelf.Strconv.Itoa1
import Derived.Shelf.LaysM
import Derived.Shelf.Strconv.Itoa2
import Derived.Shelf.Strconv.Itoa3
import Derived.Shelf.Strconv.AtoiErrFast
import Derived.Shelf.Strconv.ParseIntEmpty
import Derived.Shelf.Strconv.AtoiFail
import Derived.Shelf.Strconv.Clone
import Derived.Shelf.Strconv.SyntaxError
import Derived.Shelf.LaysC
import Derived.Shelf.Strconv.ToError
import Derived.Shelf.Strconv.Lower
import Derived.Shelf.Strconv.ParseUint10
import Derived.Shelf.Strconv.ParseUint10Empty
import Derived.Shelf.Strconv.ParseUint10Any
import Derived.Shelf.Strconv.ParseInt10
import Derived.Shelf.Strconv.AtoiLong
import Derived.Shelf.Strconv.AtoiInnerAll
import Derived.Shelf.Strconv.RangeError
import Derived.Shelf.Strconv.ToErrorRange
import Derived.Shelf.Strconv.AtoiAll
import Derived.Shelf.Strings.Search1
import Derived.Shelf.Strings.Prefix
import Derived.Test.YtpimhdkjpccihaaGreatDoorRows
import Derived.Lib.ItoaNum
import Derived.Lib.AtoiAllCases
import Derived.Lib.Builder
import Derived.Lib.AppendStr
import Derived.Lib.AppendIntMem
import Derived.Laws.StructEq
set_option linter.all false
namespace Go.Sh
open Go Go.RowKit
theorem cells_lt {w : World} : ∀ {L : List (Addr × Value)}, cellsAre w L → ∀ p ∈ L, p.1.block < w.heap.size
  | p :: l, h, q, hq => by
    rcases List.mem_cons.1 hq with rfl | hq
    · have h1 := h.1
      by_cases hc : q.1.block < w.heap.size
      · exact hc
      · unfold World.cell? at h1
        rw [Array.getElem?_eq_none (by omega)] at h1
        simp at h1
    · exact cells_lt h.2 q hq
structure KnM (w0 : World) (L : List (Addr × Value)) (g n : Nat) (w' : World) : Prop where
  kn : Kn w0 L w'
  mine : Mine w' g n
  base : w0.heap.size ≤ g
  off : ∀ p ∈ L, p.1.block ≠ g
theorem mine_lt {w : World} {g n : Nat} (h : Mine w g n) : g < w.heap.size := by
  obtain ⟨cur, T, h1, _⟩ := h
  exact (Array.getElem?_eq_some_iff.1 h1).1
theorem cellsOf_mem {L : List (Addr × Value)} {b : Nat} : ∀ (cs : List Value) (i : Nat) (p : Addr × Value), p ∈ cellsOf L b i cs → p.1.block = b ∨ p ∈ L
  | [], _, _, h => .inr h
  | _ :: l, i, p, h => by
    rcases List.mem_cons.1 h with rfl | h
    · exact .inl rfl
    · exact cellsOf_mem l (i + 1) p h
namespace KnM
variable {w0 w w' : World} {L : List (Addr × Value)} {g n : Nat}
theorem next (h : KnM w0 L g n w) (hb : Below w.heap.size w w') : KnM w0 L g n w' := ⟨h.kn.next hb, h.mine.next hb, h.base, h.off⟩
theorem drew (h : KnM w0 L g n w) : KnM w0 L g n { w with drawn := w.drawn + 1 } := h.next .drawn
theorem cells (h : KnM w0 L g n w) : cellsAre w L := h.kn.cells
theorem below (h : KnM w0 L g n w) : Below w0.heap.size w0 w := h.kn.below
end KnM
section
variable {P : Program} {w0 w : World} {K : Value → World → Prop} {T T' : TypeId} {L : List (Addr × Value)} {g n : Nat}
theorem alloc_mine {zs : List Value} (hA : ∀ w, (Instr.alloc T true (.tuple #[])).run P w = .ok (.pointer (some ⟨w.heap.size, 0, none⟩)) (w.alloc (.cells zs.toArray T))) (hn : zs.length = n) (hk : Kn w0 L w)
    (k : ∀ g W, KnM w0 L g n W → Below w.heap.size w W → w.heap.size ≤ g → K (.pointer (some ⟨g, 0, none⟩)) W) : oM P (.alloc T) T' [] K w := by
  rw [oM_alloc, hA]
  have hb := (Below.refl w.heap.size w).alloc (Nat.le_refl _) (.cells zs.toArray T)
  refine k _ _ ⟨hk.next hb, ⟨zs.toArray, T, ?_, by simpa using hn⟩, hk.below.size, fun p hp => ?_⟩ hb (Nat.le_refl _)
  · show (w.heap.push _)[w.heap.size]? = _
    simp
  · have := cells_lt hk.cells p hp
    omega
theorem store_run {x : Value} {xs : List Value} {W : World} (hT : ∀ w, (sizeOf T).run P w = .ok n w) (hx : x.cells = xs.toArray) (hl : xs.length = n) (h1 : ∀ u ∈ xs, u.oneCell' = true) (hm : Mine w g n) :
    ∃ W, (Instr.storeAt T (.pointer (some ⟨g, 0, none⟩)) x).run P w = .ok () W ∧ w.grownBy W (some g) ∧ Mine W g n ∧ cellsAre W (cellsOf [] g 0 xs) := by
  obtain ⟨cur, T0, hg, hc⟩ := hm
  have hst := run_storeCells_at P g 0 T0 xs 0 cur w hg (by omega) h1
  have e1 : (cur.toList.take (0 + 0) ++ xs ++ cur.toList.drop (0 + 0 + xs.length)).toArray = xs.toArray := by
    rw [List.drop_of_length_le (by simp; omega)]
    simp
  rw [e1] at hst
  have hh := setRow_heap w g cur xs.toArray T0 (0, 0) hg
  refine ⟨w.setRow g xs.toArray, ?_, grown_setRow _ _ _, ⟨_, _, hh, by simpa using hl⟩, cellsOf_are (xs := xs) (L := []) trivial (fun i v hi => ?_) xs 0 rfl⟩
  · have e2 : x.cells.toList = xs := by rw [hx]
    have e3 : x.cells.size = n := by rw [hx]; simpa using hl
    unfold Instr.storeAt storeVar
    rw [e2, e3]
    simp [hT, go_sem]
    exact hst
  · unfold World.cell?
    rw [hh]
    simpa using hi
theorem store_mine {x : Value} {xs : List Value} (hT : ∀ w, (sizeOf T).run P w = .ok n w) (hx : x.cells = xs.toArray) (hl : xs.length = n) (h1 : ∀ u ∈ xs, u.oneCell' = true) (hk : KnM w0 L g n w)
    (k : ∀ W, KnM w0 L g n W → cellsAre W (cellsOf [] g 0 xs) → K undef W) : oM P (.store T (.tmp 0) (.tmp 1)) T' [.pointer (some ⟨g, 0, none⟩), x] K w := by
  obtain ⟨W, e, hg, hm, hc⟩ := store_run (W := w) hT hx hl h1 hk.mine
  rw [oM_store, e]
  exact k W ⟨hk.kn.wrote hg hk.base hk.off, hm, hk.base, hk.off⟩ hc
theorem local_kn {zs : List Value} {x : Value} {xs : List Value} {T2 : TypeId} {K : Value → World → Prop} (hA : ∀ w, (Instr.alloc T true (.tuple #[])).run P w = .ok (.pointer (some ⟨w.heap.size, 0, none⟩)) (w.alloc (.cells zs.toArray T))) (hn : zs.length = n)
    (hT : ∀ w, (sizeOf T).run P w = .ok n w) (hx : x.cells = xs.toArray) (hl : xs.length = n) (h1 : ∀ u ∈ xs, u.oneCell' = true) (hk : Kn w0 L w)
    (k : ∀ b W, Kn w0 (cellsOf L b 0 xs) W → Below w.heap.size w W → w.heap.size ≤ b → K (.pointer (some ⟨b, 0, none⟩)) W) :
    oM P (.alloc T) T' [] (fun v w => oM P (.store T (.tmp 0) (.tmp 1)) T2 [v, x] (fun _ w => K v w) w) w := by
  refine alloc_mine hA hn hk fun g W hk2 hb hg => ?_
  obtain ⟨W2, e, hgr, hm, hc⟩ := store_run (W := w) hT hx hl h1 hk2.mine
  rw [oM_store, e]
  have hb2 : Below w.heap.size w W2 := hb.grown hgr hb.size (fun k hk => by cases hk; exact hg)
  refine k g W2 ⟨(hk2.kn.wrote hgr hk2.base hk2.off).below, ?_⟩ hb2 hg
  have hL := (hk2.kn.wrote hgr hk2.base hk2.off).cells
  clear e k
  have : ∀ (l : List Value) (i : Nat), cellsAre W2 (cellsOf [] g i l) → cellsAre W2 (cellsOf L g i l) := by
    intro l
    induction l with
    | nil => intro i _; exact hL
    | cons a l ih => intro i h; exact ⟨h.1, ih (i + 1) h.2⟩
  exact this xs 0 hc
theorem local_knm {zs : List Value} {x : Value} {xs : List Value} {T2 : TypeId} {K : Value → World → Prop} {m : Nat} (hA : ∀ w, (Instr.alloc T true (.tuple #[])).run P w = .ok (.pointer (some ⟨w.heap.size, 0, none⟩)) (w.alloc (.cells zs.toArray T))) (hn : zs.length = m)
    (hT : ∀ w, (sizeOf T).run P w = .ok m w) (hx : x.cells = xs.toArray) (hl : xs.length = m) (h1 : ∀ u ∈ xs, u.oneCell' = true) (hk : KnM w0 L g n w)
    (k : ∀ b W, KnM w0 (cellsOf L b 0 xs) g n W → Below w.heap.size w W → w.heap.size ≤ b → K (.pointer (some ⟨b, 0, none⟩)) W) :
    oM P (.alloc T) T' [] (fun v w => oM P (.store T (.tmp 0) (.tmp 1)) T2 [v, x] (fun _ w => K v w) w) w :=
  local_kn hA hn hT hx hl h1 hk.kn fun b W hk' h1 h2 => k b W ⟨hk', hk.mine.next h1, hk.base, fun p hp => (cellsOf_mem xs 0 p hp).elim (fun e => by have := mine_lt hk.mine; omega) (hk.off p)⟩ h1 h2
variable {C : World → Prop} {KQ : Value → Prop} {x y v : Value} {p : Prop} [Decidable p]
theorem idOH {o : Op} {l : List Value} (h : oH P o T l C KQ) : oH P o T l C KQ := h
theorem idGdH {c : Bool} {m : (World → Prop) → (Value → Prop) → Prop} (h : gdH c m C KQ) : gdH c m C KQ := h
theorem gdH_conv {c : Bool} {m : (World → Prop) → (Value → Prop) → Prop} (h : ∀ W0, gdM c (fun K' w => m C (fun v => K' v w)) (fun v _ => KQ v) W0) : gdH c m C KQ := by
  have h := h ⟨#[], default, 0, default, default⟩
  cases c <;> exact h
theorem pickH {b : Bool} (k : KQ (bif b then x else y)) : oH P (.pick (.tmp 0) (.tmp 1) (.tmp 2)) T [.bool b, x, y] C KQ := by
  refine ⟨_, fun w _ => ?_, k⟩
  simp [xop, execOp, evalL, evE, asBool]
theorem pickHT (k : KQ x) : oH P (.pick (.tmp 0) (.tmp 1) (.tmp 2)) T [.bool true, x, y] C KQ := pickH k
theorem pickHF (k : KQ y) : oH P (.pick (.tmp 0) (.tmp 1) (.tmp 2)) T [.bool false, x, y] C KQ := pickH k
theorem vA (k : KQ x) : oH P (.pick (.tmp 0) (.tmp 1) (.tmp 2)) T [.bool true, x, y] C KQ := pickHT k
theorem vB (k : KQ y) : oH P (.pick (.tmp 0) (.tmp 1) (.tmp 2)) T [.bool false, x, y] C KQ := pickHF k
end
end Go.Sh
namespace Go.Proofs
open Go Go.Sh Go.RowKit FdSpec TkSpec
set_option linter.unusedSimpArgs false
set_option linter.unusedVariables false
set_option maxRecDepth 10000
section
variable {K : Value → World → Prop} {w w0 : World} {L : List (Addr × Value)}
theorem sz_desk (w : World) : (sizeOf 111).run Tryz.prog w = .ok 5 w := by kernel_rfl
theorem al_desk (w : World) : (Instr.alloc 111 true (.tuple #[])).run Tryz.prog w = .ok (.pointer (some ⟨w.heap.size, 0, none⟩)) (w.alloc (.cells [.int .i64 0, .int .i64 0, .int .i64 0, .slice none 0 0, .int .i64 0].toArray 111)) := by kernel_rfl
theorem stp_one (s : Stp) (ad : Option Addr) (n c : Nat) : ∀ u ∈ stpC s (.slice ad n c), u.oneCell' = true := by
  intro u hu
  simp only [stpC, List.mem_cons, List.not_mem_nil, or_false] at hu
  rcases hu with rfl | rfl | rfl | rfl | rfl <;> rfl
theorem open_ok (s : Stp) {v : Value} (hs : SetR w s v) (k : ∀ w', Below w.heap.size w w' → K (.tuple #[stpV s v, .bool (validS s)]) w') : callM Tryz.prog 78 #[stpV s v] K w := by
  apply sh_78_ok
  unfold sh_78
  obtain ⟨ad, c, rfl⟩ := hs.ints.isSlice
  refine box_kn (cs := stpC s (.slice ad s.bases.length c)) rfl (.start w) fun b W hk hb1 hb => ?_
  refine alloc_mine al_desk rfl hk fun g W2 hk hb2 hg => ?_
  refine ⟨KnM w _ g 5, hk.drew, ?_⟩
  have hk := hk.drew
  have hone := stp_one s ad s.bases.length c
  repeat (any_goals ((with_reducible refine idOH ?_); (with_reducible refine oH_of ⟨_, rfl⟩ (fun W0 hW0 => by (refine oM_gen (fun Kv hK => ?_)); simp [go_sem, hW0.cells]; (first | exact hK _ _ ⟨rfl, rfl⟩ | exact ⟨by omega, hK _ _ ⟨rfl, rfl⟩⟩)) ?_)))
  refine ⟨?_, ?_⟩
  · repeat (any_goals ((with_reducible refine idO ?_); (with_reducible refine oM_gen fun Kv hK=>?_); simp [go_sem]; refine hK _ _ ?_; clear hK; clear Kv))
    refine ⟨hk, ?_⟩
    refine ValidSetup_ok s (hs.next hk.below) (fun w2 h2 => ?_)
    have hk := hk.next h2
    refine ⟨hk, ?_⟩
    refine store_mine sz_desk rfl rfl hone hk (fun W3 hk hc => ?_)
    exact ⟨hk, hk, _, by simp [go_sem, hc], k _ hk.below⟩
  · refine ValidSetup_ok s (hs.next hk.below) (fun w2 h2 => ?_)
    have hk := hk.next h2
    refine ⟨hk, ?_⟩
    repeat (any_goals ((with_reducible refine idO ?_); (with_reducible refine oM_gen fun Kv hK=>?_); simp [go_sem]; refine hK _ _ ?_; clear hK; clear Kv))
    refine ⟨hk, ?_⟩
    refine store_mine sz_desk rfl rfl hone hk (fun W3 hk hc => ?_)
    exact ⟨hk, hk, _, by simp [go_sem, hc], k _ hk.below⟩
end
end Go.Proofs
set_option linter.all false
namespace Go.Proofs
open Go.Shelf
def Tryz.laysNm2_21_ren : Go.Shelf.Ren := ⟨fun | 21 => 141 | 27 => 182 | 28 => 183 | 35 => 205 | 39 => 223 | n => n, fun | 22 => 22 | 3 => 3 | 4 => 4 | 0 => 0 | n => n, fun | n => n⟩
theorem Tryz.laysNm2_21 : Go.Proofs.Lays2.n21 Tryz.prog Tryz.laysNm2_21_ren := {
  mixed := by kernel_rfl
  f21 := Tryz.func141.trans (congrArg some (by kernel_rfl))
  f27 := Tryz.func182.trans (congrArg some (by kernel_rfl))
  f28 := Tryz.func183.trans (congrArg some (by kernel_rfl))
  f35 := Tryz.func205.trans (congrArg some (by kernel_rfl))
  f39 := Tryz.func223.trans (congrArg some (by kernel_rfl))
  t0 := Tryz.underlying0
  a0 := Tryz.isAgg0
  z0 := Tryz.sizeOf0
  v0 := Tryz.zeroValue0
  t3 := Tryz.underlying3
  a3 := Tryz.isAgg3
  z3 := Tryz.sizeOf3
  v3 := Tryz.zeroValue3
  t4 := Tryz.underlying4
  a4 := Tryz.isAgg4
  z4 := Tryz.sizeOf4
  v4 := Tryz.zeroValue4
  t22 := Tryz.underlying22
  a22 := Tryz.isAgg22
  z22 := Tryz.sizeOf22
  v22 := Tryz.zeroValue22
  i3 := by kernel_rfl }
end Go.Proofs
namespace Go.Proofs
open Go Go.Sh Go.RowKit FdSpec TkSpec
set_option linter.unusedSimpArgs false
set_option linter.unusedVariables false
set_option maxRecDepth 10000
section
variable {K : Value → World → Prop} {w w0 : World} {L : List (Addr × Value)}
theorem eqNil_at {P : Program} {w : World} {K : Value → World → Prop} {t e T : TypeId} {a : Option Addr} {n c : Nat} (ht : P.underlying t = some (.slice e)) (k : K (.bool a.isNone) w) : oM P (.binOp .eql t (.tmp 0) (.const (.slice none 0 0)) t) T [.slice a n c] K w := by
  rw [oM_eqc]
  have := Lib.run_eql_slice_nil (P := P) w t e a n c 0 0 ht
  simp only [Sem.run_bind]
  have h2 : (eqGuard .eql t (.tmp 0) (.const (.slice none 0 0)) (.slice a n c) (.slice none 0 0)).run P w = .ok () w := by
    simp [eqGuard]
  rw [h2, Result.andThen_ok, this]
  exact k
theorem below_set {B : Nat} {a : World} (g : Nat) (hg : B ≤ g) : ∀ (vs : List Value) (o : Nat) (w : World), Below B a w → Below B a (w.setCells g o vs)
  | [], _, _, h => h
  | v :: r, o, w, h => below_set g hg r (o + 1) _ (h.setCell (p := ⟨g, o, none⟩) hg v)
theorem some_set (b : Nat) (vs : List Value) (o : Nat) (w : World) (h : ∀ j, j < vs.length → (w.cell? ⟨b, o + j, none⟩).isSome = true) (k : Nat) (hk : (w.cell? ⟨b, k, none⟩).isSome = true) : ((w.setCells b o vs).cell? ⟨b, k, none⟩).isSome = true := by
  by_cases hin : o ≤ k ∧ k < o + vs.length
  · have := World.cell?_setCells_in b vs o w h (k - o) (by omega)
    rw [show o + (k - o) = k by omega] at this
    rw [this]; rfl
  · rw [World.cell?_setCells_out b vs o w ⟨b, k, none⟩ (fun _ _ => by show k < o ∨ o + vs.length ≤ k; omega)]
    exact hk
theorem shifted1 {w : World} {g : Nat} {x : Value} {cs : List Value} (h : ∀ j, j < cs.length + 1 → (w.cell? ⟨g, j, none⟩).isSome = true) (k : Nat) (v : Value) (hk : (x :: cs)[k]? = some v) : ((w.setCells g 1 cs).setCells g 0 [x]).cell? ⟨g, k, none⟩ = some v := by
  have h1 : ∀ j, j < cs.length → (w.cell? ⟨g, 1 + j, none⟩).isSome = true := fun j hj => h _ (by omega)
  cases k with
  | zero =>
    have := World.cell?_setCells_in g [x] 0 (w.setCells g 1 cs) (fun j hj => by
      have : j = 0 := by simpa using hj
      subst this
      exact some_set g cs 1 w h1 0 (h 0 (by omega))) 0 (by simp)
    rw [this]
    simpa using hk
  | succ k =>
    have hlt : k < cs.length := by
      have := (List.getElem?_eq_some_iff.1 hk).1
      simpa using this
    rw [World.cell?_setCells_out g [x] 0 _ ⟨g, k + 1, none⟩ (fun _ _ => by show k + 1 < 0 ∨ 0 + 1 ≤ k + 1; omega)]
    have := World.cell?_setCells_in g cs 1 w h1 k hlt
    rw [show k + 1 = 1 + k by omega, this, ← hk]
    simp [hlt]
theorem shifted2 {w : World} {g : Nat} {x : Value} {cs : List Value} (h : ∀ j, j < cs.length + 1 → (w.cell? ⟨g, j, none⟩).isSome = true) (k : Nat) (v : Value) (hk : (x :: cs)[k]? = some v) : ((w.setCells g 0 [x]).setCells g 1 cs).cell? ⟨g, k, none⟩ = some v := by
  have h1 : ∀ j, j < [x].length → (w.cell? ⟨g, 0 + j, none⟩).isSome = true := fun j hj => h _ (by simp at hj; omega)
  cases k with
  | zero =>
    rw [World.cell?_setCells_out g cs 1 _ ⟨g, 0, none⟩ (fun _ _ => by show 0 < 1 ∨ 1 + cs.length ≤ 0; omega)]
    have := World.cell?_setCells_in g [x] 0 w h1 0 (by simp)
    rw [this]
    simpa using hk
  | succ k =>
    have hlt : k < cs.length := by
      have := (List.getElem?_eq_some_iff.1 hk).1
      simpa using this
    have := World.cell?_setCells_in g cs 1 (w.setCells g 0 [x]) (fun j hj => some_set g [x] 0 w h1 (1 + j) (h _ (by omega))) k hlt
    rw [show k + 1 = 1 + k by omega, this, ← hk]
    simp [hlt]
theorem Clone_ok {v : Value} {l : List Int} (hr : Ints w v l) (hl : l.length < 1099511627776) (k : ∀ v' w', w'.ownsRow 0 3 1 v' l.length (flat intC l) → Below w.heap.size w w' → (∀ i, v'.ownBlock = some i → w.heap.size ≤ i) → K v' w') : callM Tryz.prog 142 #[v] K w := by
  apply sh_142_ok
  unfold sh_142
  have hi := hr.row
  obtain ⟨ad, c, rfl, h0, hc⟩ := id hi
  refine eqNil_at (e := 3) (by kernel_rfl) ?_
  cases ad with
  | none =>
    obtain ⟨hl0, rfl⟩ := h0 rfl
    obtain rfl : l = [] := List.eq_nil_of_length_eq_zero hl0
    simp only [Option.isNone_none]
    repeat (any_goals (with_reducible ((refine idCond ?_); refine yL ?_)))
    exact k _ _ (World.ownsRow_nil _ _ _ _) (Below.refl _ _) (fun i hi => by cases hi)
  | some a =>
    simp only [Option.isNone_some]
    repeat (any_goals (first
    | (with_reducible ((refine idCond ?_); refine yM ?_))
    | ((with_reducible refine idO ?_); (with_reducible refine oM_gen fun Kv hK=>?_); simp [go_sem]; refine hK _ _ ?_; clear hK; clear Kv)))
    have hr2 : RowR intC 1 (w.alloc (.cells #[] 3)) (.slice (some a) l.length c) l := hi.keep (by rw [alloc_size]; omega) (fun i _ hi => heap_alloc_old _ _ hi)
    refine clone_at 22 22 3 ((Tryz.prog.info? 3).getD default) (.int .i64 0) 1 8 (by kernel_rfl) (by kernel_rfl) (by kernel_rfl) (by kernel_rfl) (by kernel_rfl) (by kernel_rfl) (by omega) (fun _ => rfl) (fun x u hu => by simp [intC] at hu; subst hu; rfl) hr2 (World.ownsRow_lit w #[] 0 (Nat.zero_le _) (Nat.zero_le _) rfl) (B := w.heap.size) (by rw [alloc_size]; omega) (fun i hi => by cases hi; exact Nat.le_refl _) (by omega) (by omega) ?_
    intro v' w' ho hg hv
    exact k v' w' ho (((Below.refl _ _).alloc (Nat.le_refl _) _).grown hg (by rw [alloc_size]; omega) (fun i hi => by cases hi; exact Nat.le_refl _)) hv
theorem Insert_ok {g c : Nat} {l : List Int} {x : Int} {b : Nat} (hne : 0 < l.length) (hl : l.length < 1099511627776) (ho : w.ownsRow 0 3 1 (.slice (some ⟨g, 0, none⟩) l.length c) l.length (flat intC l)) {B : Nat} (hB : B ≤ g) (hBw : B ≤ w.heap.size)
    (hx : w.heap[b]? = some (.cells #[.int .i64 x] 3 (0, 0))) (hbg : b ≠ g) (hr : ∀ n ∈ l, I64 n) (hrx : I64 x) (k : ∀ v' w', Ints w' v' (x :: l) → Below B w w' → (∀ i, Value.inBlock v' = some i → B ≤ i) → K v' w') :
    callM Tryz.prog 141 #[.slice (some ⟨g, 0, none⟩) l.length c, .int .i64 0, .slice (some ⟨b, 0, none⟩) 1 1] K w := by
  obtain ⟨g', cap, cur, hv, hgw, _, hgb, hcs, hcap, hcell⟩ := owns_cells ho hne
  cases hv
  have hxc : ∀ (j : Nat) (v : Value), [Value.int .i64 x][j]? = some v → w.cell? ⟨b, 0 + j, none⟩ = some v := by
    intro j v hj
    rw [cell_of_block hx]
    simpa using hj
  have hcc : ∀ (j : Nat) (v : Value), (flat intC l)[j]? = some v → w.cell? ⟨g, 0 + j, none⟩ = some v := by
    intro j v hj
    rw [Nat.zero_add]
    exact hcell j v hj
  have h1 : ∀ v ∈ flat intC l, v.oneCell' = true := by
    intro v hv
    rw [flat_int] at hv
    obtain ⟨n, _, rfl⟩ := List.mem_map.1 hv
    rfl
  have h1x : ∀ v ∈ [Value.int .i64 x], v.oneCell' = true := by
    intro v hv
    simp at hv
    subst hv
    rfl
  have hfl : (flat intC l).length = l.length := by rw [flat_int]; simp
  have hbw : b < w.heap.size := (Array.getElem?_eq_some_iff.1 hx).1
  have hxx : ∀ n ∈ x :: l, I64 n := by
    intro n hn
    rcases List.mem_cons.1 hn with rfl | hn
    · exact hrx
    · exact hr n hn
  have hlx : (flat intC (x :: l)) = .int .i64 x :: flat intC l := rfl
  have hcm : c ≤ 9223372036854775807 := by
    rcases ho.2 with ⟨h0, _⟩ | ⟨g2, cap2, cur2, hv2, _, _, _, hm2, _⟩
    · cases h0
    · cases hv2
      simp only [maxLen] at hm2
      omega
  by_cases hroom : l.length + 1 ≤ c
  · have hsm : ∀ j, j < l.length + 1 → (w.cell? ⟨g, j, none⟩).isSome = true := by
      intro j hj
      rw [cell_of_block hgb]
      simp
      omega
    have h := Any2.slices_Insert_int_shift Tryz.laysNm2_21 g 0 l.length c 0 b 0 1 1 (flat intC l) [.int .i64 x] w (by omega) (by omega) hroom hcm hbg hfl rfl hcc (fun j hj => by rw [Nat.zero_add]; exact hsm j hj)
      (fun j hj => by unfold World.frozen?; rw [hgb]; simp) hxc h1 h1x 3 3 1 cur.size (by unfold World.shape?; rw [hx]; rfl) (by unfold World.shape?; rw [hgb]) (by omega) (by unfold World.frozen?; rw [hx]; simp) (by unfold World.frozen?; rw [hx]; simp)
    refine Calls.mono h ?_
    rintro e w' ⟨rfl, rfl⟩
    have hb2 : ∀ B' : Nat, B' ≤ g → Below B' w ((w.drew.setCells g (0 + (0 + 1)) (List.drop 0 (flat intC l))).setCells g (0 + 0) [Value.int .i64 x]) := fun B' hB' =>
      below_set g hB' _ _ _ (below_set g hB' _ _ _ (Below.refl _ w).drew)
    refine ⟨_, rfl, k _ _ ⟨⟨_, c, rfl, by simp, .inr ⟨g, 0, rfl, Nat.lt_of_lt_of_le hgw (hb2 0 (Nat.zero_le _)).size, fun j v hj => ?_⟩⟩, hxx, by simp; omega⟩ (hb2 B hB) (fun i hi => by cases hi; exact hB)⟩
    simp only [Nat.zero_add, Nat.add_zero, List.drop_zero]
    rw [hlx] at hj
    exact shifted1 (w := w.drew) (fun j hj => hsm j (by rw [hfl] at hj; exact hj)) j v hj
  · have h := Any2.slices_Insert_int_grow Tryz.laysNm2_21 g 0 l.length c 0 b 0 1 1 (flat intC l) [.int .i64 x] w (by omega) (by omega) (by omega) (by omega) (by omega) hfl rfl hcc hxc h1 h1x
    refine Calls.mono h ?_
    rintro e w' ⟨rfl, rfl⟩
    have hG := grownCap_ge w (l.length + 1) c 3
    have e3 : Tryz.laysNm2_21_ren.t 3 = 3 := rfl
    rw [e3]
    generalize grownCap w (l.length + 1) c 3 = G at *
    simp only [List.take_zero, List.drop_zero, Nat.zero_add, Nat.add_zero, Nat.sub_zero]
    have hsm : ∀ j, j < (flat intC l).length + 1 → ((w.alloc (.cells (([] : List Value).toArray ++ Builtin.zeroCells (Value.int .i64 0).cells (l.length + 1) ++ Builtin.zeroCells (Value.int .i64 0).cells (G - (l.length + 1))) 3)).drew.cell? ⟨w.heap.size, j, none⟩).isSome = true := by
      intro j hj
      rw [hfl] at hj
      have := World.cell?_alloc_at (w := w) (([] : List Value).toArray ++ Builtin.zeroCells (Value.int .i64 0).cells (l.length + 1) ++ Builtin.zeroCells (Value.int .i64 0).cells (G - (l.length + 1))) 3 w.heap.size j rfl
      show (World.cell? _ _).isSome = true
      refine (congrArg Option.isSome this).trans ?_
      rw [Array.getElem?_eq_getElem (by simp [Builtin.zeroCells, Value.cells]; omega)]
      rfl
    generalize hW : w.alloc (.cells (([] : List Value).toArray ++ Builtin.zeroCells (Value.int .i64 0).cells (l.length + 1) ++ Builtin.zeroCells (Value.int .i64 0).cells (G - (l.length + 1))) 3) = W at *
    have hbW : Below w.heap.size w W := by rw [← hW]; exact (Below.refl _ w).alloc (Nat.le_refl _) _
    have hWs : w.heap.size < W.heap.size := by rw [← hW, alloc_size]; omega
    have hb2 : Below w.heap.size w (((W.drew.setCells w.heap.size 0 [Value.int .i64 x]).drew).setCells w.heap.size 1 (flat intC l)) :=
      below_set _ (Nat.le_refl _) _ _ _ (below_set _ (Nat.le_refl _) _ _ _ hbW.drew).drew
    have hs2 : w.heap.size < (((W.drew.setCells w.heap.size 0 [Value.int .i64 x]).drew).setCells w.heap.size 1 (flat intC l)).heap.size :=
      Nat.lt_of_lt_of_le hWs (below_set w.heap.size (Nat.zero_le _) _ _ _ (below_set w.heap.size (Nat.zero_le _) _ _ _ (Below.refl 0 W).drew).drew).size
    refine ⟨_, rfl, k _ _ ⟨⟨_, G, rfl, by simp, .inr ⟨_, 0, rfl, hs2, fun j v hj => ?_⟩⟩, hxx, by simp; omega⟩ (hb2.mono hBw) (fun i hi => by cases hi; exact hBw)⟩
    rw [Nat.zero_add]
    rw [hlx] at hj
    rw [drew_setCells]
    exact shifted2 (w := W.drew.drew) (g := w.heap.size) (x := .int .i64 x) (cs := flat intC l) hsm j v hj
end
end Go.Proofs
namespace Go.Proofs
open Go Go.Sh Go.RowKit FdSpec TkSpec
set_option linter.unusedSimpArgs false
set_option linter.unusedVariables false
set_option maxRecDepth 10000
section
variable {K : Value → World → Prop} {w w0 : World} {L : List (Addr × Value)}
theorem exps_ok {v : Value} {l : List Int} (hl : Ints w v l) (hne : 0 < l.length) (hln : l.length < 1099511627776) (k : ∀ v' w', Ints w' v' (expsM l) → Below w.heap.size w w' → (∀ i, Value.inBlock v' = some i → w.heap.size ≤ i) → K v' w') : callM Tryz.prog 73 #[v] K w := by
  apply sh_73_ok
  unfold sh_73
  refine Clone_ok hl hln (fun v1 w1 ho hb hv => ?_)
  obtain ⟨g, cap, cur, rfl, hgw, _, hgb, hcs, hcap, hcell⟩ := owns_cells ho hne
  have hg := hv g rfl
  have e : (Instr.buildSlice 22 1 #[(0, .int .i64 1)]).run Tryz.prog w1 = .ok (.slice (some ⟨w1.heap.size, 0, none⟩) 1 1) (w1.alloc (.cells #[.int .i64 1] 3)) := by kernel_rfl
  rw [oM_buildSlice1, e, rM_ok]
  have hb2 := (Below.refl w1.heap.size w1).alloc (Nat.le_refl _) (.cells #[.int .i64 1] 3)
  refine Insert_ok (x := 1) (B := w.heap.size) hne hln (ho.alloc _) hg (by rw [alloc_size]; have := hb.size; omega) (b := w1.heap.size) (by show (w1.heap.push _)[w1.heap.size]? = _; exact Array.getElem?_push_size) (by omega) hl.rng (by unfold I64; omega) (fun v' w' hi hbb hff => ?_)
  exact k _ _ hi ((hb.on hb2).trans hbb) hff
theorem markM_no {s : Stp} {l : List Int} (h : validS s = false ∨ l.length + 1 ≠ s.bases.length ∨ numsM s 0 l = false ∨ l.headD 0 = 0) : markM s l = (0, false) := by
  unfold markM
  rw [if_neg]
  intro hc
  simp only [Bool.and_eq_true, decide_eq_true_eq, Bool.not_eq_true', decide_eq_false_iff_not] at hc
  obtain ⟨⟨⟨h1, h2⟩, h3⟩, h4⟩ := hc
  rcases h with h | h | h | h
  · rw [h] at h1; cases h1
  · exact h h2
  · rw [h] at h3; cases h3
  · exact h4 h
theorem markM_yes {s : Stp} {l : List Int} (h1 : validS s = true) (h2 : l.length + 1 = s.bases.length) (h3 : numsM s 0 l = true) (h4 : l.headD 0 ≠ 0) : markM s l = ((prodG s.g s.bases (expsM l)).1, true) := by
  unfold markM
  rw [if_pos]
  simp only [Bool.and_eq_true, decide_eq_true_eq, Bool.not_eq_true', decide_eq_false_iff_not]
  exact ⟨⟨⟨h1, h2⟩, h3⟩, h4⟩
theorem local_desk {K : Value → World → Prop} {T' T2 : TypeId} {g n : Nat} (s : Stp) (ad : Option Addr) (m c : Nat) (hk : KnM w0 L g n w)
    (k : ∀ b W, KnM w0 (cellsOf L b 0 (stpC s (.slice ad m c))) g n W → Below w.heap.size w W → w.heap.size ≤ b → K (.pointer (some ⟨b, 0, none⟩)) W) :
    oM Tryz.prog (.alloc 111) T' [] (fun v w => oM Tryz.prog (.store 111 (.tmp 0) (.tmp 1)) T2 [v, stpV s (.slice ad m c)] (fun _ w => K v w) w) w :=
  local_knm al_desk rfl sz_desk rfl rfl (stp_one s ad m c) hk k
theorem local_desk' {K : Value → World → Prop} {T' T2 : TypeId} (s : Stp) (ad : Option Addr) (m c : Nat) (hk : Kn w0 L w)
    (k : ∀ b W, Kn w0 (cellsOf L b 0 (stpC s (.slice ad m c))) W → Below w.heap.size w W → w.heap.size ≤ b → K (.pointer (some ⟨b, 0, none⟩)) W) :
    oM Tryz.prog (.alloc 111) T' [] (fun v w => oM Tryz.prog (.store 111 (.tmp 0) (.tmp 1)) T2 [v, stpV s (.slice ad m c)] (fun _ w => K v w) w) w :=
  local_kn al_desk rfl sz_desk rfl rfl (stp_one s ad m c) hk k
theorem validS_len {s : Stp} (h : validS s = true) : 2 ≤ s.bases.length ∧ s.bases.length ≤ 7 := by
  unfold validS at h
  simp only [Bool.and_eq_true, decide_eq_true_eq] at h
  exact ⟨h.1.1.1.2, h.1.1.2⟩
theorem store_desk {K : Value → World → Prop} {T' : TypeId} {g : Nat} (s : Stp) (ad : Option Addr) (m c : Nat) (hk : KnM w0 L g 5 w)
    (k : ∀ W, KnM w0 L g 5 W → cellsAre W (cellsOf [] g 0 (stpC s (.slice ad m c))) → K undef W) : oM Tryz.prog (.store 111 (.tmp 0) (.tmp 1)) T' [.pointer (some ⟨g, 0, none⟩), stpV s (.slice ad m c)] K w :=
  store_mine sz_desk rfl rfl (stp_one s ad m c) hk k
theorem _root_.Go.Sh.Ints.headD {w : World} {ad : Option Addr} {n c : Nat} {l : List Int} (h : Ints w (.slice ad n c) l) (hne : 0 < l.length) :
    ∃ b o, ad = some ⟨b, o, none⟩ ∧ (∀ w', Below w.heap.size w w' → w'.cell? ⟨b, o, none⟩ = some (.int .i64 (l.headD 0))) ∧ I64 (l.headD 0) := by
  obtain ⟨b, o, rfl, _, hc, hr, _⟩ := h.at hne
  have e : l[0] = l.headD 0 := by
    cases l with
    | nil => simp at hne
    | cons a l => rfl
  rw [e] at hc hr
  exact ⟨b, o, rfl, fun w' hb => by have := hc w' hb; simpa using this, hr⟩
theorem mark_ok (s : Stp) {v lv : Value} {l : List Int} (hs : SetR w s v) (hl : Ints w lv l) (k : ∀ w', Below w.heap.size w w' → K (.tuple #[stpV s v, .int .i64 (markM s l).1, .bool (markM s l).2]) w') : callM Tryz.prog 95 #[stpV s v, lv] K w := by
  apply sh_95_ok
  unfold sh_95
  obtain ⟨ad, c, rfl⟩ := hs.ints.isSlice
  have hone := stp_one s ad s.bases.length c
  have k2 : ∀ w' r, markM s l = r → Below w.heap.size w w' → K (.tuple #[stpV s (.slice ad s.bases.length c), .int .i64 r.1, .bool r.2]) w' := fun w' r e hb => by rw [← e]; exact k w' hb
  clear k
  refine box_kn (cs := stpC s (.slice ad s.bases.length c)) rfl (.start w) fun b W hk hb1 hb => ?_
  refine alloc_mine al_desk rfl hk fun g W2 hk hb2 hg => ?_
  repeat (any_goals ((with_reducible refine idO ?_); (with_reducible refine oM_gen fun Kv hK=>?_); simp [go_sem, hk.cells]; refine hK _ _ ?_; clear hK; clear Kv))
  refine open_ok s (hs.next hk.below) (fun w2 h2 => ?_)
  have hk := hk.next h2
  clear h2 hb1 hb2
  have hll := hl.len
  have hbl := hs.ints.len
  obtain ⟨lad, lc, rfl⟩ := hl.isSlice
  cases hv : validS s with
  | false =>
    repeat (any_goals (first
    | ((with_reducible refine local_desk s ad s.bases.length c hk ?_); intro b7 W7 hk hb7 hg7)
    | (with_reducible first|((refine idGd ?_); refine zD ?_)|((refine idPick ?_); refine yB ?_)|((refine idCond ?_); refine yL ?_))
    | ((with_reducible refine idO ?_); (with_reducible refine oM_gen fun Kv hK=>?_); simp [go_sem, hk.cells]; refine hK _ _ ?_; clear hK; clear Kv)))
    refine store_desk s ad _ c hk (fun W3 hk hc => ⟨_, by simp [go_sem, hc], k2 _ _ (markM_no (.inl hv)) hk.below⟩)
  | true =>
    have hlen := validS_len hv
    repeat (any_goals (first
    | ((with_reducible refine local_desk s ad s.bases.length c hk ?_); intro b7 W7 hk hb7 hg7)
    | (with_reducible first|refine pureM_in ?_|((refine idGd ?_); first|refine zC ?_|refine zD ?_|((refine idGdN ?_); first|refine zO ?_|refine zP ?_|refine zQ (fun hg=>?_) fun hg=>?_))|((refine idPick ?_); first|refine yB ?_|refine yC ?_|refine yF ?_)|((refine idCond ?_); refine yL ?_))
    | ((with_reducible refine idO ?_); (with_reducible refine oM_gen fun Kv hK=>?_); simp [go_sem, hk.cells]; (try simp (disch := omega) only [wrapI64, wrapU8, wrapU32, wrapU64]); refine hK _ _ ?_; clear hK; clear Kv)))
    · refine nums_ok s 0 (hs.next hk.below) (hl.next hk.below) (fun w3 h3 => ?_)
      have hk := hk.next h3
      obtain ⟨b8, o8, rfl, c8, r8⟩ := hl.headD (by omega)
      obtain ⟨x0, hx0⟩ : ∃ x0, l.headD 0 = x0 := ⟨_, rfl⟩
      rw [hx0] at c8 r8
      cases hn : numsM s 0 l with
      | false =>
        repeat (any_goals (first
        | (with_reducible first|((refine idGd ?_); first|refine zD ?_|((refine idGdN ?_); refine zO ?_))|((refine idPick ?_); first|refine yB ?_|refine yG ?_)|((refine idCond ?_); refine yL ?_))
        | ((with_reducible refine idO ?_); (with_reducible refine oM_gen fun Kv hK=>?_); simp [go_sem, hk.cells]; refine hK _ _ ?_; clear hK; clear Kv)))
        refine store_desk s ad _ c hk (fun W3 hk hc => ⟨_, by simp [go_sem, hc], k2 _ _ (markM_no (.inr (.inr (.inl hn)))) hk.below⟩)
      | true =>
        by_cases h0 : x0 = 0
        · repeat (any_goals (first
          | (with_reducible first|refine pureM_in ?_|((refine idGd ?_); first|refine zC ?_|((refine idGdN ?_); refine zO ?_))|((refine idPick ?_); first|refine yC ?_|refine yG ?_)|((refine idCond ?_); refine yL ?_))
          | ((with_reducible refine idO ?_); (with_reducible refine oM_gen fun Kv hK=>?_); simp [go_sem, hk.cells, c8 _ hk.below, h0]; (first|refine hK _ _ ?_|refine And.intro (by omega) (hK _ _ ?_)); clear hK; clear Kv)))
          refine store_desk s ad _ c hk (fun W3 hk hc => ⟨_, by simp [go_sem, hc], k2 _ _ (markM_no (.inr (.inr (.inr (hx0.trans h0))))) hk.below⟩)
        · repeat (any_goals (first
          | (with_reducible first|refine pureM_in ?_|((refine idGd ?_); first|refine zC ?_|((refine idGdN ?_); refine zO ?_))|((refine idPick ?_); first|refine yC ?_|refine yG ?_)|((refine idCond ?_); refine yM ?_))
          | ((with_reducible refine idO ?_); (with_reducible refine oM_gen fun Kv hK=>?_); simp [go_sem, hk.cells, c8 _ hk.below, h0]; (first|refine hK _ _ ?_|refine And.intro (by omega) (hK _ _ ?_)); clear hK; clear Kv)))
          have em := markM_yes hv (by omega) hn (by rw [hx0]; exact h0)
          refine ⟨KnM w _ g 5, hk.drew, ?_⟩
          have hk := hk.drew
          repeat (any_goals (first
          | (with_reducible refine pureH_in ?_)
          | ((with_reducible refine idOH ?_); (with_reducible refine oH_of ⟨_, rfl⟩ (fun W0 hW0 => by (refine oM_gen (fun Kv hK => ?_)); simp [go_sem, hW0.cells]; (first | exact hK _ _ ⟨rfl, rfl⟩ | exact ⟨by omega, hK _ _ ⟨rfl, rfl⟩⟩)) ?_))))
          refine exps_ok (hl.next hk.below) (by omega) (by omega) (fun ev w4 he h4 _ => ?_)
          have hk := hk.next h4
          refine ⟨hk, ?_⟩
          refine product_t_ok s (hs.next hk.below) he (fun w5 h5 => ?_)
          have hk := hk.next h5
          refine ⟨hk, ?_⟩
          refine store_desk s ad _ c hk (fun W3 hk hc => ⟨hk, hk, hk, _, by simp [go_sem, hc], k2 _ _ em hk.below⟩)
    · refine store_desk s ad _ c hk (fun W3 hk hc => ⟨_, by simp [go_sem, hc], k2 _ _ (markM_no (.inr (.inl (by omega)))) hk.below⟩)
theorem usable_ok (s : Stp) {v lv : Value} {l : List Int} (hs : SetR w s v) (hl : Ints w lv l) (k : ∀ w', Below w.heap.size w w' → K (.tuple #[stpV s v, .int .i64 (usableM s l).1, .bool (usableM s l).2]) w') : callM Tryz.prog 70 #[stpV s v, lv] K w := by
  apply sh_70_ok
  unfold sh_70
  obtain ⟨ad, c, rfl⟩ := hs.ints.isSlice
  refine box_kn (cs := stpC s (.slice ad s.bases.length c)) rfl (.start w) fun b W hk hb1 hb => ?_
  refine alloc_mine al_desk rfl hk fun g W2 hk hb2 hg => ?_
  repeat (any_goals ((with_reducible refine idO ?_); (with_reducible refine oM_gen fun Kv hK=>?_); simp [go_sem, hk.cells]; refine hK _ _ ?_; clear hK; clear Kv))
  refine mark_ok s (hs.next hk.below) (hl.next hk.below) (fun w2 h2 => ?_)
  have hk := hk.next h2
  clear h2 hb1 hb2
  unfold usableM at k
  obtain ⟨⟨m, u⟩, hm⟩ : ∃ x, markM s l = x := ⟨_, rfl⟩
  rw [hm] at k ⊢
  simp only at k ⊢
  cases u with
  | false =>
    repeat (any_goals (first
    | ((with_reducible refine local_desk s ad s.bases.length c hk ?_); intro b7 W7 hk hb7 hg7)
    | (with_reducible first|((refine idGd ?_); refine zB ?_)|((refine idPick ?_); refine yC ?_))
    | ((with_reducible refine idO ?_); (with_reducible refine oM_gen fun Kv hK=>?_); simp [go_sem, hk.cells]; refine hK _ _ ?_; clear hK; clear Kv)))
    refine store_desk s ad _ c hk (fun W3 hk hc => ⟨_, by simp [go_sem, hc], k _ hk.below⟩)
  | true =>
    repeat (any_goals (first
    | ((with_reducible refine local_desk s ad s.bases.length c hk ?_); intro b7 W7 hk hb7 hg7)
    | (with_reducible first|refine pureM_in ?_|((refine idGd ?_); refine zA ?_)|((refine idPick ?_); refine yB ?_))
    | ((with_reducible refine idO ?_); (with_reducible refine oM_gen fun Kv hK=>?_); simp [go_sem, hk.cells]; refine hK _ _ ?_; clear hK; clear Kv)))
    refine store_desk s ad _ c hk (fun W3 hk hc => ⟨stpV s (.slice ad s.bases.length c), by simp [go_sem, hc], by simpa using k _ hk.below⟩)
end
end Go.Proofs
namespace Go.Proofs
open Go Go.Sh Go.RowKit FdSpec TkSpec
set_option linter.unusedSimpArgs false
set_option linter.unusedVariables false
set_option maxRecDepth 10000
theorem I64_of {x n : Int} (h : 0 ≤ x ∧ x < n) (hn : okN n) : I64 x := by unfold I64; unfold okN at hn; omega
theorem I64_0 : I64 0 := by unfold I64; omega
theorem mulM_I64 (n a b : Int) : I64 (mulM n a b) := by
  by_cases hn : okN n
  · exact I64_of (mulM_range n a b hn) hn
  · unfold mulM; rw [if_neg hn]; exact I64_0
theorem addM_I64 (n a b : Int) : I64 (addM n a b) := by
  by_cases hn : okN n
  · exact I64_of (addM_range n a b hn) hn
  · unfold addM; rw [if_neg hn]; exact I64_0
theorem subM_I64 (n a b : Int) : I64 (subM n a b) := by
  by_cases hn : okN n
  · exact I64_of (subM_range n a b hn) hn
  · unfold subM; rw [if_neg hn]; exact I64_0
theorem powM_I64 (n a b : Int) : I64 (powM n a b) := by
  by_cases hn : okN n
  · have h1 : 0 < n := by unfold okN at hn; omega
    unfold powM; rw [if_pos hn]
    split
    · exact I64_of (pw_nonneg n a _ h1) hn
    · split
      · exact I64_of (pw_nonneg n _ _ h1) hn
      · exact I64_0
  · unfold powM; rw [if_neg hn]; exact I64_0
theorem powerG_I64 (g : Grp) (x k : Int) : I64 (powerG g x k) := by
  unfold powerG
  split
  · rename_i h
    exact I64_of (pw_nonneg g.P x _ (by have := h.1; unfold okN at this; omega)) h.1
  · exact I64_0
theorem timesG_I64 (g : Grp) (a b : Int) : I64 (timesG g a b) := by
  unfold timesG
  split
  · exact mulM_I64 _ _ _
  · exact I64_0
theorem mulQ_I64 (s : Stp) (x : Int) (l : List Int) (h : l ≠ []) : I64 (mulQ s x l) := by
  unfold mulQ
  obtain ⟨l', y, rfl⟩ : ∃ l' y, l = l' ++ [y] := ⟨l.dropLast, l.getLast h, (List.dropLast_concat_getLast h).symm⟩
  rw [List.foldl_append]
  exact mulM_I64 _ _ _
section
variable {K : Value → World → Prop} {w w0 : World} {L : List (Addr × Value)}
theorem mk5 {T : TypeId} (a b c d e : Int) (ha : I64 a) (hb : I64 b) (hc : I64 c) (hd : I64 d) (he : I64 e) (k : ∀ v W, Below w.heap.size w W → Ints W v [a, b, c, d, e] → K v W) : oM Tryz.prog (.buildSlice 22 5 #[(0, .tmp 0), (1, .tmp 1), (2, .tmp 2), (3, .tmp 3), (4, .tmp 4)]) T [.int .i64 a, .int .i64 b, .int .i64 c, .int .i64 d, .int .i64 e] K w := by
  rw [rM_of (S := Instr.buildSlice 22 5 #[(0, .int .i64 a), (1, .int .i64 b), (2, .int .i64 c), (3, .int .i64 d), (4, .int .i64 e)]) (by simp [xop, execOp, evalL, evE])]
  have e : (Instr.buildSlice 22 5 #[(0, .int .i64 a), (1, .int .i64 b), (2, .int .i64 c), (3, .int .i64 d), (4, .int .i64 e)]).run Tryz.prog w = .ok (.slice (some ⟨w.heap.size, 0, none⟩) 5 5) (w.alloc (.cells #[.int .i64 a, .int .i64 b, .int .i64 c, .int .i64 d, .int .i64 e] 3)) := by kernel_rfl
  rw [e]
  exact k _ _ ((Below.refl _ w).alloc (Nat.le_refl _) _) (ints_alloc w [a, b, c, d, _] _ 5 (by simp; exact ⟨ha, hb, hc, hd, he⟩) (by simp))
theorem over_ok (s : Stp) (x y : Int) {dv : Value} (hs : SetR w s dv) (k : ∀ w', Below w.heap.size w w' → K (.int .i64 (overQ s x y)) w') : callM Tryz.prog 105 #[stpV s dv, .int .i64 x, .int .i64 y] K w := by
  apply sh_105_ok
  unfold sh_105
  obtain ⟨ad, c, rfl⟩ := hs.ints.isSlice
  refine box_kn (cs := stpC s (.slice ad s.bases.length c)) rfl (.start w) fun b W hk hb1 hb => ?_
  refine ⟨Kn w _, hk.drew, ?_⟩
  have hk := hk.drew
  repeat (any_goals (first
  | (with_reducible refine pureH_in ?_)
  | ((with_reducible refine idOH ?_); (with_reducible refine oH_of ⟨_, rfl⟩ (fun W0 hW0 => by (refine oM_gen (fun Kv hK => ?_)); simp [go_sem, hW0.cells]; (first | exact hK _ _ ⟨rfl, rfl⟩ | exact ⟨by omega, hK _ _ ⟨rfl, rfl⟩⟩)) ?_))))
  refine Pow_ok _ _ _ (by omega) (fun w2 h2 => ?_)
  have hk := hk.next h2
  refine ⟨hk, mk1 _ (powM_I64 _ _ _) (fun v w3 h3 hi => ?_)⟩
  have hk := hk.next h3
  refine ⟨hk, mul_ok s x (hs.next hk.below) hi (fun w4 h4 => ?_)⟩
  have hk := hk.next h4
  exact ⟨hk, hk, k _ hk.below⟩
theorem Mark_ok (s : Stp) {v lv : Value} {l : List Int} (hs : SetR w s v) (hl : Ints w lv l) (k : ∀ w', Below w.heap.size w w' → K (.int .i64 (markM s l).1) w') : callM Tryz.prog 27 #[stpV s v, lv] K w := by
  apply sh_27_ok
  unfold sh_27
  obtain ⟨ad, c, rfl⟩ := hs.ints.isSlice
  refine box_kn (cs := stpC s (.slice ad s.bases.length c)) rfl (.start w) fun b W hk hb1 hb => ?_
  repeat (any_goals ((with_reducible refine idO ?_); (with_reducible refine oM_gen fun Kv hK=>?_); simp [go_sem, hk.cells]; refine hK _ _ ?_; clear hK; clear Kv))
  refine mark_ok s (hs.next hk.below) (hl.next hk.below) (fun w2 h2 => ?_)
  have hk := hk.next h2
  repeat (any_goals (first
  | ((with_reducible refine local_desk' s ad s.bases.length c hk ?_); intro b7 W7 hk hb7 hg7)
  | ((with_reducible refine idO ?_); (with_reducible refine oM_gen fun Kv hK=>?_); simp [go_sem, hk.cells]; refine hK _ _ ?_; clear hK; clear Kv)))
  exact k _ hk.below
theorem Usable_ok (s : Stp) {v lv : Value} {l : List Int} (hs : SetR w s v) (hl : Ints w lv l) (k : ∀ w', Below w.heap.size w w' → K (.bool (usableM s l).2) w') : callM Tryz.prog 29 #[stpV s v, lv] K w := by
  apply sh_29_ok
  unfold sh_29
  obtain ⟨ad, c, rfl⟩ := hs.ints.isSlice
  refine box_kn (cs := stpC s (.slice ad s.bases.length c)) rfl (.start w) fun b W hk hb1 hb => ?_
  repeat (any_goals ((with_reducible refine idO ?_); (with_reducible refine oM_gen fun Kv hK=>?_); simp [go_sem, hk.cells]; refine hK _ _ ?_; clear hK; clear Kv))
  refine usable_ok s (hs.next hk.below) (hl.next hk.below) (fun w2 h2 => ?_)
  have hk := hk.next h2
  repeat (any_goals (first
  | ((with_reducible refine local_desk' s ad s.bases.length c hk ?_); intro b7 W7 hk hb7 hg7)
  | ((with_reducible refine idO ?_); (with_reducible refine oM_gen fun Kv hK=>?_); simp [go_sem, hk.cells]; refine hK _ _ ?_; clear hK; clear Kv)))
  exact k _ hk.below
theorem Public_ok (s : Stp) (x : Int) {v : Value} (hx : I64 x) (hs : SetR w s v) (k : ∀ w', Below w.heap.size w w' → K (.int .i64 (publicM s x)) w') : callM Tryz.prog 19 #[stpV s v, .int .i64 x] K w := by
  apply sh_19_ok
  unfold sh_19
  obtain ⟨ad, c, rfl⟩ := hs.ints.isSlice
  refine box_kn (cs := stpC s (.slice ad s.bases.length c)) rfl (.start w) fun b W hk hb1 hb => ?_
  have k2 : ∀ w' r, publicM s x = r → Below w.heap.size w w' → K (.int .i64 r) w' := fun w' r e hb => by rw [← e]; exact k w' hb
  clear k
  unfold publicM at k2
  repeat (any_goals ((with_reducible refine idO ?_); (with_reducible refine oM_gen fun Kv hK=>?_); simp [go_sem, hk.cells]; refine hK _ _ ?_; clear hK; clear Kv))
  refine open_ok s (hs.next hk.below) (fun w2 h2 => ?_)
  have hk := hk.next h2
  clear hb1 h2
  cases hv : validS s with
  | false =>
    repeat (any_goals (first
    | ((with_reducible refine local_desk' s ad s.bases.length c hk ?_); intro b7 W7 hk hb7 hg7)
    | (with_reducible first|((refine idGd ?_); refine zB ?_)|((refine idPick ?_); refine yC ?_)|((refine idCond ?_); refine yM ?_))
    | ((with_reducible refine idO ?_); (with_reducible refine oM_gen fun Kv hK=>?_); simp [go_sem, hk.cells]; refine hK _ _ ?_; clear hK; clear Kv)))
    exact k2 _ _ (by rw [hv]; rfl) hk.below
  | true =>
    repeat (any_goals (first
    | ((with_reducible refine local_desk' s ad s.bases.length c hk ?_); intro b7 W7 hk hb7 hg7) | ((with_reducible refine mk1 x hx ?_); intro v8 W8 hb8 hi)
    | (with_reducible first|refine pureM_in ?_|((refine idGd ?_); refine zA ?_))
    | ((with_reducible refine idO ?_); (with_reducible refine oM_gen fun Kv hK=>?_); simp [go_sem, hk.cells]; refine hK _ _ ?_; clear hK; clear Kv)))
    have hk := hk.next hb8
    refine nums_ok s 1 (hs.next hk.below) hi (fun w3 h3 => ?_)
    have hk := hk.next h3
    cases hn : numsM s 1 [x] with
    | false =>
      repeat (any_goals (with_reducible first|((refine idPick ?_); refine yB ?_)|((refine idCond ?_); refine yM ?_)))
      exact k2 _ _ (by rw [hv, hn]; rfl) hk.below
    | true =>
      repeat (any_goals (first
      | (with_reducible first|((refine idPick ?_); refine yB ?_)|((refine idCond ?_); refine yL ?_))
      | ((with_reducible refine idO ?_); (with_reducible refine oM_gen fun Kv hK=>?_); simp [go_sem, hk.cells]; refine hK _ _ ?_; clear hK; clear Kv)))
      refine generated_ok s x (hs.next hk.below) (fun w4 h4 => ?_)
      have hk := hk.next h4
      exact k2 _ _ (by rw [hv, hn]; rfl) hk.below
theorem Grant_ok (s : Stp) (x y z : Int) {v : Value} (hx : I64 x) (hy : I64 y) (hz : I64 z) (hs : SetR w s v) (k : ∀ w', Below w.heap.size w w' → K (.int .i64 (grantM s x y z)) w') : callM Tryz.prog 15 #[stpV s v, .int .i64 x, .int .i64 y, .int .i64 z] K w := by
  apply sh_15_ok
  unfold sh_15
  obtain ⟨ad, c, rfl⟩ := hs.ints.isSlice
  refine box_kn (cs := stpC s (.slice ad s.bases.length c)) rfl (.start w) fun b W hk hb1 hb => ?_
  have k2 : ∀ w' r, grantM s x y z = r → Below w.heap.size w w' → K (.int .i64 r) w' := fun w' r e hb => by rw [← e]; exact k w' hb
  clear k
  unfold grantM at k2
  repeat (any_goals ((with_reducible refine idO ?_); (with_reducible refine oM_gen fun Kv hK=>?_); simp [go_sem, hk.cells]; refine hK _ _ ?_; clear hK; clear Kv))
  refine open_ok s (hs.next hk.below) (fun w2 h2 => ?_)
  have hk := hk.next h2
  clear hb1 h2
  cases hv : validS s with
  | false =>
    repeat (any_goals (first
    | ((with_reducible refine local_desk' s ad s.bases.length c hk ?_); intro b7 W7 hk hb7 hg7)
    | (with_reducible first|((refine idGd ?_); refine zB ?_)|((refine idPick ?_); refine yC ?_)|((refine idCond ?_); refine yM ?_))
    | ((with_reducible refine idO ?_); (with_reducible refine oM_gen fun Kv hK=>?_); simp [go_sem, hk.cells]; refine hK _ _ ?_; clear hK; clear Kv)))
    exact k2 _ _ (by rw [hv]; rfl) hk.below
  | true =>
    repeat (any_goals (first
    | ((with_reducible refine local_desk' s ad s.bases.length c hk ?_); intro b7 W7 hk hb7 hg7) | ((with_reducible refine mk1 x hx ?_); intro v8 W8 hb8 hi)
    | (with_reducible first|refine pureM_in ?_|((refine idGd ?_); refine zA ?_))
    | ((with_reducible refine idO ?_); (with_reducible refine oM_gen fun Kv hK=>?_); simp [go_sem, hk.cells]; refine hK _ _ ?_; clear hK; clear Kv)))
    have hk := hk.next hb8
    refine nums_ok s 1 (hs.next hk.below) hi (fun w3 h3 => ?_)
    have hk := hk.next h3
    cases hn : numsM s 1 [x] with
    | false =>
      repeat (any_goals (with_reducible first|((refine idGd ?_); refine zB ?_)|((refine idPick ?_); first|refine yB ?_|refine yC ?_)|((refine idCond ?_); refine yM ?_)))
      exact k2 _ _ (by rw [hv, hn]; rfl) hk.below
    | true =>
      repeat (any_goals (first
      | ((with_reducible refine mk2 y z hy hz ?_); intro v9 W9 hb9 hi)
      | (with_reducible first|refine pureM_in ?_|((refine idGd ?_); refine zA ?_)|((refine idPick ?_); refine yB ?_))
      | ((with_reducible refine idO ?_); (with_reducible refine oM_gen fun Kv hK=>?_); simp [go_sem, hk.cells]; refine hK _ _ ?_; clear hK; clear Kv)))
      have hk := hk.next hb9
      refine nums_ok s 0 (hs.next hk.below) hi (fun w4 h4 => ?_)
      have hk := hk.next h4
      cases hn2 : numsM s 0 [y, z] with
      | false =>
        repeat (any_goals (with_reducible first|((refine idPick ?_); refine yB ?_)|((refine idCond ?_); refine yM ?_)))
        exact k2 _ _ (by rw [hv, hn, hn2]; rfl) hk.below
      | true =>
        repeat (any_goals (with_reducible first|((refine idPick ?_); refine yB ?_)|((refine idCond ?_); refine yL ?_)))
        refine ⟨Kn w _, hk.drew, ?_⟩
        have hk := hk.drew
        repeat (any_goals (first
        | ((with_reducible refine mk1 x hx ?_); intro v9 W9 hb9 hi)
        | (with_reducible refine pureH_in ?_)
        | ((with_reducible refine idOH ?_); (with_reducible refine oH_of ⟨_, rfl⟩ (fun W0 hW0 => by (refine oM_gen (fun Kv hK => ?_)); simp [go_sem, hW0.cells]; (first | exact hK _ _ ⟨rfl, rfl⟩ | exact ⟨by omega, hK _ _ ⟨rfl, rfl⟩⟩)) ?_))))
        have hk := hk.next hb9
        refine ⟨hk, mul_ok s z (hs.next hk.below) hi (fun w5 h5 => ?_)⟩
        have hk := hk.next h5
        refine ⟨hk, plus_ok s _ y (hs.next hk.below) (fun w6 h6 => ?_)⟩
        have hk := hk.next h6
        exact ⟨hk, hk, k2 _ _ (by rw [hv, hn, hn2]; rfl) hk.below⟩
end
end Go.Proofs
namespace Go.Proofs
open Go Go.Sh Go.RowKit FdSpec TkSpec
set_option linter.unusedSimpArgs false
set_option linter.unusedVariables false
set_option maxRecDepth 10000
section
variable {K : Value → World → Prop} {w w0 : World} {L : List (Addr × Value)}
@[reducible] def offV (o : Off) : Value := .agg #[.int .i64 o.z, .int .i64 o.a, .int .i64 o.b]
@[reducible] def tktV (t : Tkt) : Value := .agg #[.int .i64 t.mark, .int .i64 t.first, .int .i64 t.z, .int .i64 t.a, .int .i64 t.b, .int .i64 t.r]
@[reducible] def tktC (t : Tkt) : List Value := [.int .i64 t.mark, .int .i64 t.first, .int .i64 t.z, .int .i64 t.a, .int .i64 t.b, .int .i64 t.r]
@[reducible] def bldV (b : Bld) (v : Value) : Value := .agg #[.int .i64 b.s, .int .i64 b.u, .int .i64 b.v, v]
@[reducible] def bldC (b : Bld) (v : Value) : List Value := [.int .i64 b.s, .int .i64 b.u, .int .i64 b.v, v]
@[reducible] def spdV (x : Spd) (v : Value) : Value := .agg #[.int .i64 x.dare, v]
@[reducible] def spdC (x : Spd) (v : Value) : List Value := [.int .i64 x.dare, v]
structure TktR (t : Tkt) : Prop where
  mark : I64 t.mark
  first : I64 t.first
  z : I64 t.z
  a : I64 t.a
  b : I64 t.b
  r : I64 t.r
structure BldR (w : World) (b : Bld) (bv : Value) : Prop where
  s : I64 b.s
  u : I64 b.u
  v : I64 b.v
  ys : Ints w bv b.ys
structure SpdR (w : World) (x : Spd) (v : Value) : Prop where
  dare : I64 x.dare
  answers : Ints w v x.answers
theorem BldR.next {w w' : World} {b : Bld} {v : Value} (h : BldR w b v) (hb : Below w.heap.size w w') : BldR w' b v := ⟨h.s, h.u, h.v, h.ys.next hb⟩
theorem SpdR.next {w w' : World} {x : Spd} {v : Value} (h : SpdR w x v) (hb : Below w.heap.size w w') : SpdR w' x v := ⟨h.dare, h.answers.next hb⟩
theorem sz_off (w : World) : (sizeOf 39).run Tryz.prog w = .ok 3 w := by kernel_rfl
theorem al_off (w : World) : (Instr.alloc 39 true (.tuple #[])).run Tryz.prog w = .ok (.pointer (some ⟨w.heap.size, 0, none⟩)) (w.alloc (.cells [.int .i64 0, .int .i64 0, .int .i64 0].toArray 39)) := by kernel_rfl
theorem off_one (o : Off) : ∀ u ∈ [Value.int .i64 o.z, .int .i64 o.a, .int .i64 o.b], u.oneCell' = true := by
  intro u hu
  simp only [List.mem_cons, List.not_mem_nil, or_false] at hu
  rcases hu with rfl | rfl | rfl <;> rfl
theorem store_off {K : Value → World → Prop} {T' : TypeId} {g : Nat} (o : Off) (hk : KnM w0 L g 3 w)
    (k : ∀ W, KnM w0 L g 3 W → cellsAre W (cellsOf [] g 0 [.int .i64 o.z, .int .i64 o.a, .int .i64 o.b]) → K undef W) : oM Tryz.prog (.store 39 (.tmp 0) (.tmp 1)) T' [.pointer (some ⟨g, 0, none⟩), offV o] K w :=
  store_mine sz_off rfl rfl (off_one o) hk k
theorem propose_no {s : Stp} {x : Int} {l : List Int} {y : Int} (h : (usableM s l).2 = false ∨ numsM s 1 [x] = false ∨ numsM s 0 [y] = false) : proposeM s x l y = (⟨0, 0, 0⟩, 1) := by
  unfold proposeM
  rw [if_neg]
  rcases h with h | h | h <;> simp [h]
theorem Propose_ok (s : Stp) (x y : Int) {v lv : Value} {l : List Int} (hx : I64 x) (hy : I64 y) (hs : SetR w s v) (hl : Ints w lv l) (k : ∀ w', Below w.heap.size w w' → K (.tuple #[offV (proposeM s x l y).1, .int .i64 (proposeM s x l y).2]) w') : callM Tryz.prog 14 #[stpV s v, .int .i64 x, lv, .int .i64 y] K w := by
  apply sh_14_ok
  unfold sh_14
  obtain ⟨ad, c, rfl⟩ := hs.ints.isSlice
  have k2 : ∀ w' r, proposeM s x l y = r → Below w.heap.size w w' → K (.tuple #[offV r.1, .int .i64 r.2]) w' := fun w' r e hb => by rw [← e]; exact k w' hb
  clear k
  refine box_kn (cs := stpC s (.slice ad s.bases.length c)) rfl (.start w) fun b W hk hb1 hb => ?_
  refine alloc_mine al_off rfl hk fun g W2 hk hb2 hg => ?_
  repeat (any_goals ((with_reducible refine idO ?_); (with_reducible refine oM_gen fun Kv hK=>?_); simp [go_sem, hk.cells]; refine hK _ _ ?_; clear hK; clear Kv))
  refine usable_ok s (hs.next hk.below) (hl.next hk.below) (fun w2 h2 => ?_)
  have hk := hk.next h2
  clear hb1 h2 hb2
  obtain ⟨⟨m, u⟩, hm⟩ : ∃ x, usableM s l = x := ⟨_, rfl⟩
  rw [hm]
  cases u with
  | false =>
    repeat (any_goals (first
    | ((with_reducible refine local_desk s ad s.bases.length c hk ?_); intro b7 W7 hk hb7 hg7)
    | (with_reducible first|((refine idGd ?_); refine zD ?_)|((refine idPick ?_); refine yB ?_)|((refine idCond ?_); refine yL ?_))
    | ((with_reducible refine idO ?_); (with_reducible refine oM_gen fun Kv hK=>?_); simp [go_sem, hk.cells]; refine hK _ _ ?_; clear hK; clear Kv)))
    refine store_off ⟨0, 0, 0⟩ hk (fun W3 hk hc => ⟨_, by simp [go_sem, hc], k2 _ _ (propose_no (.inl (by rw [hm]))) hk.below⟩)
  | true =>
    repeat (any_goals (first
    | ((with_reducible refine local_desk s ad s.bases.length c hk ?_); intro b7 W7 hk hb7 hg7) | ((with_reducible refine mk1 x hx ?_); intro v8 W8 hb8 hi)
    | (with_reducible first|refine pureM_in ?_|((refine idGd ?_); refine zC ?_))
    | ((with_reducible refine idO ?_); (with_reducible refine oM_gen fun Kv hK=>?_); simp [go_sem, hk.cells]; refine hK _ _ ?_; clear hK; clear Kv)))
    have hk := hk.next hb8
    refine nums_ok s 1 (hs.next hk.below) hi (fun w3 h3 => ?_)
    have hk := hk.next h3
    cases hn : numsM s 1 [x] with
    | false =>
      repeat (any_goals (first
      | (with_reducible first|((refine idGd ?_); first|refine zC ?_|refine zD ?_)|((refine idPick ?_); first|refine yB ?_|refine yC ?_)|((refine idCond ?_); refine yL ?_))
      | ((with_reducible refine idO ?_); (with_reducible refine oM_gen fun Kv hK=>?_); simp [go_sem, hk.cells]; refine hK _ _ ?_; clear hK; clear Kv)))
      refine store_off ⟨0, 0, 0⟩ hk (fun W3 hk hc => ⟨_, by simp [go_sem, hc], k2 _ _ (propose_no (.inr (.inl hn))) hk.below⟩)
    | true =>
      repeat (any_goals (first
      | ((with_reducible refine mk1 y hy ?_); intro v9 W9 hb9 hi)
      | (with_reducible first|refine pureM_in ?_|((refine idGd ?_); refine zC ?_)|((refine idPick ?_); refine yC ?_))
      | ((with_reducible refine idO ?_); (with_reducible refine oM_gen fun Kv hK=>?_); simp [go_sem, hk.cells]; refine hK _ _ ?_; clear hK; clear Kv)))
      have hk := hk.next hb9
      refine nums_ok s 0 (hs.next hk.below) hi (fun w4 h4 => ?_)
      have hk := hk.next h4
      cases hn2 : numsM s 0 [y] with
      | false =>
        repeat (any_goals (first
        | (with_reducible first|((refine idGd ?_); refine zC ?_)|((refine idPick ?_); refine yC ?_)|((refine idCond ?_); refine yL ?_))
        | ((with_reducible refine idO ?_); (with_reducible refine oM_gen fun Kv hK=>?_); simp [go_sem, hk.cells]; refine hK _ _ ?_; clear hK; clear Kv)))
        refine store_off ⟨0, 0, 0⟩ hk (fun W3 hk hc => ⟨_, by simp [go_sem, hc], k2 _ _ (propose_no (.inr (.inr hn2))) hk.below⟩)
      | true =>
        have e : proposeM s x l y = (⟨powerG s.g m x, genM s y, powerG s.g m y⟩, 0) := by
          unfold proposeM
          rw [if_pos (by rw [hm, hn, hn2]; rfl), hm]
        repeat (any_goals (first
        | (with_reducible first|((refine idGd ?_); refine zC ?_)|((refine idPick ?_); refine yC ?_)|((refine idCond ?_); refine yM ?_))
        | ((with_reducible refine idO ?_); (with_reducible refine oM_gen fun Kv hK=>?_); simp [go_sem, hk.cells]; refine hK _ _ ?_; clear hK; clear Kv)))
        refine ⟨KnM w _ g 3, hk.drew, ?_⟩
        have hk := hk.drew
        repeat (any_goals (first
        | (with_reducible refine pureH_in ?_)
        | ((with_reducible refine idOH ?_); (with_reducible refine oH_of ⟨_, rfl⟩ (fun W0 hW0 => by (refine oM_gen (fun Kv hK => ?_)); simp [go_sem, hW0.cells]; (first | exact hK _ _ ⟨rfl, rfl⟩ | exact ⟨by omega, hK _ _ ⟨rfl, rfl⟩⟩)) ?_))))
        refine tpower_ok s m x (hs.next hk.below) (fun w5 h5 => ?_)
        have hk := hk.next h5
        refine ⟨hk, generated_ok s y (hs.next hk.below) (fun w6 h6 => ?_)⟩
        have hk := hk.next h6
        refine ⟨hk, tpower_ok s m y (hs.next hk.below) (fun w7 h7 => ?_)⟩
        have hk := hk.next h7
        refine ⟨hk, ?_⟩
        generalize powerG s.g m x = p1 at *
        generalize genM s y = p2 at *
        generalize powerG s.g m y = p3 at *
        repeat (any_goals ((with_reducible refine idO ?_); (with_reducible refine oM_gen fun Kv hK=>?_); simp [go_sem]; refine hK _ _ ?_; clear hK; clear Kv))
        refine ⟨hk, store_off ⟨p1, p2, p3⟩ hk (fun W3 hk hc => ⟨hk, hk, _, by simp [go_sem, hc], k2 _ _ e hk.below⟩)⟩
theorem blinds_ok (s : Stp) (b : Bld) {v bv : Value} (hs : SetR w s v) (hb : BldR w b bv) (k : ∀ w', Below w.heap.size w w' → K (.bool (blindsM s b)) w') : callM Tryz.prog 71 #[stpV s v, bldV b bv] K w := by
  apply sh_71_ok
  unfold sh_71
  obtain ⟨ad, c, rfl⟩ := hs.ints.isSlice
  have hys := hb.ys
  obtain ⟨yad, yc, rfl⟩ := hb.ys.isSlice
  have k2 : ∀ w' r, blindsM s b = r → Below w.heap.size w w' → K (.bool r) w' := fun w' r e hb => by rw [← e]; exact k w' hb
  clear k
  unfold blindsM at k2
  refine box_kn (cs := stpC s (.slice ad s.bases.length c)) rfl (.start w) fun b1 W hk hb1 hbb => ?_
  refine box_kn (cs := bldC b (.slice yad b.ys.length yc)) rfl hk fun b2 W2 hk hb2 hbb => ?_
  repeat (any_goals (first
  | ((with_reducible refine mk2 b.s b.u hb.s hb.u ?_); intro v8 W8 hb8 hi)
  | ((with_reducible refine idO ?_); (with_reducible refine oM_gen fun Kv hK=>?_); simp [go_sem, hk.cells]; refine hK _ _ ?_; clear hK; clear Kv)))
  have hk := hk.next hb8
  refine nums_ok s 1 (hs.next hk.below) hi (fun w3 h3 => ?_)
  have hk := hk.next h3
  cases hn : numsM s 1 [b.s, b.u] with
  | false =>
    repeat (any_goals (with_reducible first|((refine idGd ?_); refine zB ?_)|((refine idPick ?_); refine yC ?_)))
    exact k2 _ _ (by rw [hn]; rfl) hk.below
  | true =>
    repeat (any_goals (first
    | ((with_reducible refine mk1 b.v hb.v ?_); intro v9 W9 hb9 hi)
    | (with_reducible ((refine idGd ?_); refine zA ?_))
    | ((with_reducible refine idO ?_); (with_reducible refine oM_gen fun Kv hK=>?_); simp [go_sem, hk.cells]; refine hK _ _ ?_; clear hK; clear Kv)))
    have hk := hk.next hb9
    refine nums_ok s 0 (hs.next hk.below) hi (fun w4 h4 => ?_)
    have hk := hk.next h4
    cases hn2 : numsM s 0 [b.v] with
    | false =>
      repeat (any_goals (with_reducible first|((refine idGd ?_); refine zB ?_)|((refine idPick ?_); first|refine yB ?_|refine yC ?_)))
      exact k2 _ _ (by rw [hn, hn2]; rfl) hk.below
    | true =>
      by_cases hlen : b.ys.length = s.bases.length
      · repeat (any_goals (first
        | (with_reducible first|((refine idGd ?_); refine zA ?_)|((refine idPick ?_); refine yB ?_))
        | ((with_reducible refine idO ?_); (with_reducible refine oM_gen fun Kv hK=>?_); simp [go_sem, hk.cells, hlen]; refine hK _ _ ?_; clear hK; clear Kv)))
        have hys2 : Ints w (.slice yad s.bases.length yc) b.ys := by rw [← hlen]; exact hys
        refine nums_ok s 0 (hs.next hk.below) (hys2.next hk.below) (fun w5 h5 => ?_)
        have hk := hk.next h5
        repeat (any_goals (with_reducible ((refine idPick ?_); refine yB ?_)))
        exact k2 _ _ (by rw [hn, hn2]; simp [hlen]) hk.below
      · have hl' : ¬ (b.ys.length : Int) = s.bases.length := by omega
        repeat (any_goals (first
        | (with_reducible first|((refine idGd ?_); first|refine zA ?_|refine zB ?_)|((refine idPick ?_); first|refine yB ?_|refine yC ?_))
        | ((with_reducible refine idO ?_); (with_reducible refine oM_gen fun Kv hK=>?_); simp [go_sem, hk.cells, hl']; refine hK _ _ ?_; clear hK; clear Kv)))
        exact k2 _ _ (by rw [hn, hn2]; simp [hlen]) hk.below
end
end Go.Proofs
namespace Go.Proofs
open Go Go.Sh Go.RowKit FdSpec TkSpec
set_option linter.unusedSimpArgs false
set_option linter.unusedVariables false
set_option maxRecDepth 10000
section
variable {K : Value → World → Prop} {w w0 : World} {L : List (Addr × Value)}
theorem formed_ok (s : Stp) (t : Tkt) {v : Value} (ht : TktR t) (hs : SetR w s v) (k : ∀ w', Below w.heap.size w w' → K (.tuple #[stpV s v, .bool (formedM s t)]) w') : callM Tryz.prog 124 #[stpV s v, tktV t] K w := by
  apply sh_124_ok
  unfold sh_124
  obtain ⟨ad, c, rfl⟩ := hs.ints.isSlice
  have k2 : ∀ w' r, formedM s t = r → Below w.heap.size w w' → K (.tuple #[stpV s (.slice ad s.bases.length c), .bool r]) w' := fun w' r e hb => by rw [← e]; exact k w' hb
  clear k
  unfold formedM at k2
  refine box_kn (cs := stpC s (.slice ad s.bases.length c)) rfl (.start w) fun b1 W hk hb1 hbb => ?_
  refine box_kn (cs := tktC t) rfl hk fun b2 W2 hk hb2 hbb => ?_
  refine alloc_mine (n := 5) al_desk rfl hk fun g W2 hk hb2 hg => ?_
  repeat (any_goals ((with_reducible refine idO ?_); (with_reducible refine oM_gen fun Kv hK=>?_); simp [go_sem, hk.cells]; refine hK _ _ ?_; clear hK; clear Kv))
  refine open_ok s (hs.next hk.below) (fun w2 h2 => ?_)
  have hk := hk.next h2
  clear hb1 h2 hb2
  cases hv : validS s with
  | false =>
    repeat (any_goals (first
    | ((with_reducible refine local_desk s ad s.bases.length c hk ?_); intro b7 W7 hk hb7 hg7)
    | ((with_reducible refine idO ?_); (with_reducible refine oM_gen fun Kv hK=>?_); simp [go_sem, hk.cells]; refine hK _ _ ?_; clear hK; clear Kv)))
    refine ⟨KnM w _ g 5, hk.drew, ?_⟩
    have hk := hk.drew
    repeat (any_goals (first
    | (with_reducible refine And.intro hk ?_)
    | (with_reducible first|refine pureH_in ?_|((refine idGdH ?_); refine gdH_conv fun _=>?_)|((refine idGd ?_); refine zB ?_))
    | ((with_reducible refine idOH ?_); first|(with_reducible refine vB ?_)|(with_reducible refine oH_of ⟨_, rfl⟩ (fun W0 hW0 => by (refine oM_gen (fun Kv hK => ?_)); simp [go_sem, hW0.cells]; (first | exact hK _ _ ⟨rfl, rfl⟩ | exact ⟨by omega, hK _ _ ⟨rfl, rfl⟩⟩)) ?_))))
    exact store_desk s ad _ c hk (fun W3 hk hc => ⟨hk, hk, _, by simp [go_sem, hc], k2 _ _ (by rw [hv]; rfl) hk.below⟩)
  | true =>
    repeat (any_goals (first
    | ((with_reducible refine local_desk s ad s.bases.length c hk ?_); intro b7 W7 hk hb7 hg7)
    | ((with_reducible refine idO ?_); (with_reducible refine oM_gen fun Kv hK=>?_); simp [go_sem, hk.cells]; refine hK _ _ ?_; clear hK; clear Kv)))
    refine ⟨KnM w _ g 5, hk.drew, ?_⟩
    have hk := hk.drew
    by_cases hm : t.mark = 1
    · repeat (any_goals (first
      | (with_reducible refine And.intro hk ?_)
      | (with_reducible first|refine pureH_in ?_|((refine idGdH ?_); refine gdH_conv fun _=>?_)|((refine idGd ?_); first|refine zA ?_|refine zB ?_))
      | ((with_reducible refine idOH ?_); first|(with_reducible first|refine vA ?_|refine vB ?_)|(with_reducible refine oH_of ⟨_, rfl⟩ (fun W0 hW0 => by (refine oM_gen (fun Kv hK => ?_)); simp [go_sem, hW0.cells, hm]; (first | exact hK _ _ ⟨rfl, rfl⟩ | exact ⟨by omega, hK _ _ ⟨rfl, rfl⟩⟩)) ?_))))
      exact store_desk s ad _ c hk (fun W3 hk hc => ⟨hk, hk, _, by simp [go_sem, hc], k2 _ _ (by rw [hv, hm]; rfl) hk.below⟩)
    · repeat (any_goals (first
      | (with_reducible refine And.intro hk ?_)
      | ((with_reducible refine mk5 t.mark t.first t.z t.a t.b ht.mark ht.first ht.z ht.a ht.b ?_); intro v8 W8 hb8 hi)
      | (with_reducible first|refine pureH_in ?_|((refine idGdH ?_); refine gdH_conv fun _=>?_)|((refine idGd ?_); refine zA ?_))
      | ((with_reducible refine idOH ?_); first|(with_reducible refine vA ?_)|(with_reducible refine oH_of ⟨_, rfl⟩ (fun W0 hW0 => by (refine oM_gen (fun Kv hK => ?_)); simp [go_sem, hW0.cells, hm]; (first | exact hK _ _ ⟨rfl, rfl⟩ | exact ⟨by omega, hK _ _ ⟨rfl, rfl⟩⟩)) ?_))))
      have hk := hk.next hb8
      refine ⟨hk, elements_ok s (hs.next hk.below) hi (fun w3 h3 => ?_)⟩
      have hk := hk.next h3
      refine ⟨hk, ?_⟩
      cases he : elementsM s [t.mark, t.first, t.z, t.a, t.b] with
      | false =>
        repeat (any_goals (first
        | (with_reducible refine And.intro hk ?_)
        | (with_reducible first|refine pureH_in ?_|((refine idGdH ?_); refine gdH_conv fun _=>?_)|((refine idGd ?_); refine zB ?_))
        | ((with_reducible refine idOH ?_); (with_reducible first|refine vA ?_|refine vB ?_))))
        exact store_desk s ad _ c hk (fun W3 hk hc => ⟨hk, hk, _, by simp [go_sem, hc], k2 _ _ (by rw [hv, he]; simp) hk.below⟩)
      | true =>
        repeat (any_goals (first
        | (with_reducible refine And.intro hk ?_)
        | ((with_reducible refine mk1 t.r ht.r ?_); intro v9 W9 hb9 hi9)
        | (with_reducible first|refine pureH_in ?_|((refine idGdH ?_); refine gdH_conv fun _=>?_)|((refine idGd ?_); refine zA ?_))
        | ((with_reducible refine idOH ?_); first|(with_reducible refine vA ?_)|(with_reducible refine oH_of ⟨_, rfl⟩ (fun W0 hW0 => by (refine oM_gen (fun Kv hK => ?_)); simp [go_sem, hW0.cells]; (first | exact hK _ _ ⟨rfl, rfl⟩ | exact ⟨by omega, hK _ _ ⟨rfl, rfl⟩⟩)) ?_))))
        have hk := hk.next hb9
        refine ⟨hk, nums_ok s 0 (hs.next hk.below) hi9 (fun w4 h4 => ?_)⟩
        have hk := hk.next h4
        refine ⟨hk, ?_⟩
        repeat (any_goals (first
        | (with_reducible refine And.intro hk ?_)
        | ((with_reducible refine idOH ?_); (with_reducible refine vA ?_))))
        exact store_desk s ad _ c hk (fun W3 hk hc => ⟨hk, hk, _, by simp [go_sem, hc], k2 _ _ (by rw [hv, he]; simp [hm]) hk.below⟩)
theorem acceptsM_no {s : Stp} {t : Tkt} {x : Spd} (h : formedM s t = false ∨ numsM s 1 [x.dare] = false ∨ x.answers.length ≠ s.bases.length ∨ numsM s 0 x.answers = false) : acceptsM s t x = false := by
  unfold acceptsM
  rw [if_neg]
  rcases h with h | h | h | h <;> simp [h]
theorem Accepts_ok (s : Stp) (t : Tkt) (x : Spd) {v xv : Value} (ht : TktR t) (hs : SetR w s v) (hx : SpdR w x xv) (k : ∀ w', Below w.heap.size w w' → K (.bool (acceptsM s t x)) w') : callM Tryz.prog 57 #[stpV s v, tktV t, spdV x xv] K w := by
  apply sh_57_ok
  unfold sh_57
  obtain ⟨ad, c, rfl⟩ := hs.ints.isSlice
  have hans := hx.answers
  obtain ⟨xad, xc, rfl⟩ := hx.answers.isSlice
  have k2 : ∀ w' r, acceptsM s t x = r → Below w.heap.size w w' → K (.bool r) w' := fun w' r e hb => by rw [← e]; exact k w' hb
  clear k
  refine box_kn (cs := stpC s (.slice ad s.bases.length c)) rfl (.start w) fun b1 W hk hb1 hbb => ?_
  refine box_kn (cs := tktC t) rfl hk fun b2 W2 hk hb2 hbb => ?_
  refine box_kn (cs := spdC x (.slice xad x.answers.length xc)) rfl hk fun b3 W3 hk hb3 hbb => ?_
  repeat (any_goals ((with_reducible refine idO ?_); (with_reducible refine oM_gen fun Kv hK=>?_); simp [go_sem, hk.cells]; refine hK _ _ ?_; clear hK; clear Kv))
  refine formed_ok s t ht (hs.next hk.below) (fun w2 h2 => ?_)
  have hk := hk.next h2
  clear hb1 h2 hb2 hb3
  cases hv : formedM s t with
  | false =>
    repeat (any_goals (first
    | ((with_reducible refine local_desk' s ad s.bases.length c hk ?_); intro b7 W7 hk hb7 hg7)
    | (with_reducible first|((refine idGd ?_); refine zD ?_)|((refine idPick ?_); refine yB ?_)|((refine idCond ?_); refine yL ?_))
    | ((with_reducible refine idO ?_); (with_reducible refine oM_gen fun Kv hK=>?_); simp [go_sem, hk.cells]; refine hK _ _ ?_; clear hK; clear Kv)))
    exact k2 _ _ (acceptsM_no (.inl hv)) hk.below
  | true =>
    repeat (any_goals (first
    | ((with_reducible refine local_desk' s ad s.bases.length c hk ?_); intro b7 W7 hk hb7 hg7) | ((with_reducible refine mk1 x.dare hx.dare ?_); intro v8 W8 hb8 hi)
    | (with_reducible ((refine idGd ?_); refine zC ?_))
    | ((with_reducible refine idO ?_); (with_reducible refine oM_gen fun Kv hK=>?_); simp [go_sem, hk.cells]; refine hK _ _ ?_; clear hK; clear Kv)))
    have hk := hk.next hb8
    refine nums_ok s 1 (hs.next hk.below) hi (fun w3 h3 => ?_)
    have hk := hk.next h3
    cases hn : numsM s 1 [x.dare] with
    | false =>
      repeat (any_goals (first
      | (with_reducible first|((refine idGd ?_); first|refine zC ?_|refine zD ?_)|((refine idPick ?_); first|refine yB ?_|refine yC ?_)|((refine idCond ?_); refine yL ?_))
      | ((with_reducible refine idO ?_); (with_reducible refine oM_gen fun Kv hK=>?_); simp [go_sem, hk.cells]; refine hK _ _ ?_; clear hK; clear Kv)))
      exact k2 _ _ (acceptsM_no (.inr (.inl hn))) hk.below
    | true =>
      by_cases hlen : x.answers.length = s.bases.length
      · repeat (any_goals (first
        | (with_reducible first|((refine idGd ?_); refine zC ?_)|((refine idPick ?_); refine yC ?_))
        | ((with_reducible refine idO ?_); (with_reducible refine oM_gen fun Kv hK=>?_); simp [go_sem, hk.cells, hlen]; refine hK _ _ ?_; clear hK; clear Kv)))
        have hans2 : Ints w (.slice xad s.bases.length xc) x.answers := by rw [← hlen]; exact hans
        refine nums_ok s 0 (hs.next hk.below) (hans2.next hk.below) (fun w5 h5 => ?_)
        have hk := hk.next h5
        cases hn2 : numsM s 0 x.answers with
        | false =>
          repeat (any_goals (first
          | (with_reducible first|((refine idGd ?_); refine zC ?_)|((refine idPick ?_); refine yC ?_)|((refine idCond ?_); refine yL ?_))
          | ((with_reducible refine idO ?_); (with_reducible refine oM_gen fun Kv hK=>?_); simp [go_sem, hk.cells]; refine hK _ _ ?_; clear hK; clear Kv)))
          exact k2 _ _ (acceptsM_no (.inr (.inr (.inr hn2)))) hk.below
        | true =>
          repeat (any_goals (first
          | (with_reducible first|((refine idGd ?_); refine zC ?_)|((refine idPick ?_); refine yC ?_)|((refine idCond ?_); refine yM ?_))
          | ((with_reducible refine idO ?_); (with_reducible refine oM_gen fun Kv hK=>?_); simp [go_sem, hk.cells]; refine hK _ _ ?_; clear hK; clear Kv)))
          have e : acceptsM s t x = decide ((prodG s.g s.bases x.answers).1 = timesM s (powerG s.g t.mark x.dare) [t.first]) := by
            unfold acceptsM
            rw [if_pos (by rw [hv, hn, hn2]; simp [hlen])]
          refine ⟨Kn w _, hk.drew, ?_⟩
          have hk := hk.drew
          repeat (any_goals ((with_reducible refine idOH ?_); (with_reducible refine oH_of ⟨_, rfl⟩ (fun W0 hW0 => by (refine oM_gen (fun Kv hK => ?_)); simp [go_sem, hW0.cells, hlen]; (first | exact hK _ _ ⟨rfl, rfl⟩ | exact ⟨by omega, hK _ _ ⟨rfl, rfl⟩⟩)) ?_)))
          refine ⟨?_, ?_⟩
          · refine product_t_ok s (hs.next hk.below) (hans2.next hk.below) (fun w6 h6 => ?_)
            have hk := hk.next h6
            refine ⟨hk, ?_, ?_⟩
            · refine tpower_ok s t.mark x.dare (hs.next hk.below) (fun w7 h7 => ?_)
              have hk := hk.next h7
              refine ⟨hk, mk1 t.first ht.first (fun v8 w8 h8 hi => ?_)⟩
              have hk := hk.next h8
              refine ⟨hk, times_ok s _ (hs.next hk.below) hi (fun w9 h9 => ?_)⟩
              have hk := hk.next h9
              refine ⟨hk, ?_⟩
              repeat (any_goals ((with_reducible refine idOH ?_); (with_reducible refine oH_of ⟨_, rfl⟩ (fun W0 hW0 => by (refine oM_gen (fun Kv hK => ?_)); simp [go_sem]; (first | exact hK _ _ ⟨rfl, rfl⟩ | exact ⟨by omega, hK _ _ ⟨rfl, rfl⟩⟩)) ?_)))
              exact ⟨hk, k2 _ _ e hk.below⟩
            · refine mk1 t.first ht.first (fun v8 w8 h8 hi => ?_)
              have hk := hk.next h8
              refine ⟨hk, tpower_ok s t.mark x.dare (hs.next hk.below) (fun w7 h7 => ?_)⟩
              have hk := hk.next h7
              refine ⟨hk, times_ok s _ (hs.next hk.below) (hi.next h7) (fun w9 h9 => ?_)⟩
              have hk := hk.next h9
              refine ⟨hk, ?_⟩
              repeat (any_goals ((with_reducible refine idOH ?_); (with_reducible refine oH_of ⟨_, rfl⟩ (fun W0 hW0 => by (refine oM_gen (fun Kv hK => ?_)); simp [go_sem]; (first | exact hK _ _ ⟨rfl, rfl⟩ | exact ⟨by omega, hK _ _ ⟨rfl, rfl⟩⟩)) ?_)))
              exact ⟨hk, k2 _ _ e hk.below⟩
          · refine mk1 t.first ht.first (fun v8 w8 h8 hi => ?_)
            have hk := hk.next h8
            refine ⟨hk, product_t_ok s (hs.next hk.below) (hans2.next hk.below) (fun w6 h6 => ?_)⟩
            have hk := hk.next h6
            refine ⟨hk, tpower_ok s t.mark x.dare (hs.next hk.below) (fun w7 h7 => ?_)⟩
            have hk := hk.next h7
            refine ⟨hk, times_ok s _ (hs.next hk.below) ((hi.next h6).next h7) (fun w9 h9 => ?_)⟩
            have hk := hk.next h9
            refine ⟨hk, ?_⟩
            repeat (any_goals ((with_reducible refine idOH ?_); (with_reducible refine oH_of ⟨_, rfl⟩ (fun W0 hW0 => by (refine oM_gen (fun Kv hK => ?_)); simp [go_sem]; (first | exact hK _ _ ⟨rfl, rfl⟩ | exact ⟨by omega, hK _ _ ⟨rfl, rfl⟩⟩)) ?_)))
            exact ⟨hk, k2 _ _ e hk.below⟩
      · have hl' : ¬ (x.answers.length : Int) = s.bases.length := by omega
        repeat (any_goals (first
        | (with_reducible first|((refine idGd ?_); first|refine zC ?_|refine zD ?_)|((refine idPick ?_); first|refine yB ?_|refine yC ?_)|((refine idCond ?_); refine yL ?_))
        | ((with_reducible refine idO ?_); (with_reducible refine oM_gen fun Kv hK=>?_); simp [go_sem, hk.cells, hl']; refine hK _ _ ?_; clear hK; clear Kv)))
        exact k2 _ _ (acceptsM_no (.inr (.inr (.inl hlen)))) hk.below
end
end Go.Proofs
namespace Go.Proofs
open Go Go.Sh Go.RowKit FdSpec TkSpec
set_option linter.unusedSimpArgs false
set_option linter.unusedVariables false
set_option maxRecDepth 10000
section
variable {K : Value → World → Prop} {w w0 : World} {L : List (Addr × Value)}
abbrev OwnI (w : World) (B : Nat) (v : Value) (l : List Int) : Prop := w.ownsRow B 3 1 v l.length (flat intC l)
theorem OwnI.ints {B : Nat} {v : Value} {l : List Int} (h : OwnI w B v l) (hr : ∀ n ∈ l, I64 n) (hl : l.length ≤ 9223372036854775807) : Ints w v l := Ints.of_owns h hr hl
theorem owns_up {B C : Nat} {e : TypeId} {sz : Nat} {v : Value} {n : Nat} {xs : List Value} (h : w.ownsRow B e sz v n xs) (hc : ∀ i, v.ownBlock = some i → C ≤ i) : w.ownsRow C e sz v n xs := by
  refine ⟨h.1, h.2.imp id ?_⟩
  rintro ⟨g, cap, cur, rfl, hb, hr⟩
  exact ⟨g, cap, cur, rfl, hc g rfl, hr⟩
theorem OwnI.keep {B : Nat} {v : Value} {l : List Int} {w' : World} (h : OwnI w B v l) (hb : Below w.heap.size w w') : OwnI w' B v l :=
  owns_keep h (fun i hi => hb.block i (owns_own h hi).1)
theorem append1 {B : Nat} {T : TypeId} {v xv : Value} {l : List Int} {x : Int} (ho : OwnI w B v l) (hB : B ≤ w.heap.size) (hx : Ints w xv [x]) (hl : l.length < 1099511627776)
    (k : ∀ v' w', OwnI w' B v' (l ++ [x]) → Below B w w' → K v' w') : oM Tryz.prog (.call { callee := .builtin .append, args := #[.tmp 0, .tmp 1], argTypes := #[22, 22] }) T [v, xv] K w := by
  obtain ⟨⟨ad, c, rfl, h0, hc⟩, hr, _⟩ := hx
  have hc := hc.resolve_left (by simp)
  obtain ⟨b, o, rfl, hlt, hcell⟩ := hc
  refine append_at 22 T 3 ((Tryz.prog.info? 3).getD default) (.int .i64 0) 1 8 (by kernel_rfl) (by kernel_rfl) (by kernel_rfl) (by kernel_rfl) (by kernel_rfl) (by kernel_rfl) (by omega) (owns_base ho (Nat.zero_le _)) [.int .i64 x] (by simp) (by simp) ?_ ?_ (by simp only [maxLen, List.length_singleton]; omega) (by simp only [List.length_singleton]; omega) ?_
  · rintro a ha j u hj
    cases ha
    rw [add_none]
    exact hcell j u hj
  · intro u hu
    simp only [List.mem_singleton] at hu
    subst hu; rfl
  · intro v' w' ho' hg hv
    have hbl : ∀ i, v.ownBlock = some i → B ≤ i := fun i hi => (owns_own ho hi).2.1
    refine k v' w' ?_ ((Below.refl B w).grown hg hB hbl)
    have e1 : (l ++ [x]).length = l.length + [x].length := by simp
    have e2 : flat intC (l ++ [x]) = flat intC l ++ [Value.int .i64 x] := by rw [flat_int, flat_int]; simp
    show w'.ownsRow B 3 1 v' (l ++ [x]).length (flat intC (l ++ [x]))
    rw [e1, e2]
    exact owns_up ho' (fun i hi => (hv i hi).elim (hbl i) (fun h => Nat.le_trans hB h))
theorem Same_ok {v u : Value} {a b : List Int} (ha : Ints w v a) (hb : Ints w u b) (k : ∀ w', Below w.heap.size w w' → K (.bool (decide (a = b))) w') : callM Tryz.prog 59 #[v, u] K w := by
  apply sh_59_ok
  unfold sh_59
  obtain ⟨ad1, c1, rfl⟩ := ha.isSlice
  obtain ⟨ad2, c2, rfl⟩ := hb.isSlice
  have l1 := ha.len
  have l2 := hb.len
  by_cases hl : a.length = b.length
  · repeat (any_goals (first
    | (with_reducible ((refine idCond ?_); refine yM ?_))
    | ((with_reducible refine idO ?_); (with_reducible refine oM_gen fun Kv hK=>?_); simp [go_sem, hl]; refine hK _ _ ?_; clear hK; clear Kv)))
    refine ⟨fun vs w' => Below w.heap.size w w' ∧ ∃ (v : Value) (i : Nat), vs = [v, .int .i64 (i : Int)] ∧ i ≤ a.length ∧ a.take i = b.take i, fun vs _ => match vs with | [_, .int _ i] => b.length - i.toNat | _ => 0, ⟨Below.refl _ _, _, 0, rfl, by omega, rfl⟩, ?_⟩
    rintro _ _ w1 ⟨h1, u1, i, rfl, hi, he⟩
    by_cases hin : i = b.length
    · have e : a = b := by
        rw [List.take_of_length_le (by omega), List.take_of_length_le (by omega)] at he
        exact he
      have k := k _ h1
      rw [decide_eq_true e] at k
      repeat (any_goals (first
      | (with_reducible ((refine idCond ?_); refine yO ?_))
      | ((with_reducible refine idO ?_); (with_reducible refine oM_gen fun Kv hK=>?_); simp [go_sem, hl]; refine hK _ _ ?_; clear hK; clear Kv)))
      exact k
    · obtain ⟨b1, o1, rfl, hb1, ca, ra, _⟩ := ha.at (i := i) (by omega)
      obtain ⟨b2, o2, rfl, hb2, cb, rb, _⟩ := hb.at (i := i) (by omega)
      repeat (any_goals (first
      | (with_reducible ((refine idCond ?_); refine yN ?_))
      | ((with_reducible refine idO ?_); (with_reducible refine oM_gen fun Kv hK=>?_); simp [go_sem, hl]; refine hK _ _ ?_; clear hK; clear Kv)))
      refine ⟨Below w.heap.size w, h1.trans .drawn, ?_⟩
      by_cases hx : a[i] = b[i]
      · repeat (any_goals ((with_reducible refine idOQ ?_); (with_reducible refine oQ_of ⟨_, rfl⟩ (fun W0 hW0 => by (refine oM_gen (fun Kv hK => ?_)); simp [go_sem, ca _ hW0, cb _ hW0, hl, hx]; (first | exact hK _ _ ⟨rfl, rfl⟩ | exact ⟨by omega, hK _ _ ⟨rfl, rfl⟩⟩)) ?_)))
        intro w2 h2
        repeat (any_goals (first
        | (with_reducible ((refine idCond ?_); refine yM ?_))
        | ((with_reducible refine idO ?_); (with_reducible refine oM_gen fun Kv hK=>?_); simp [go_sem, hx]; (try simp (disch := omega) only [wrapI64, wrapU8, wrapU32, wrapU64]); refine hK _ _ ?_; clear hK; clear Kv)))
        refine ⟨⟨h2, _, i + 1, rfl, by omega, ?_⟩, by show b.length - (((i + 1 : Nat) : Int)).toNat < b.length - ((i : Nat) : Int).toNat; omega⟩
        rw [List.take_succ_eq_append_getElem (by omega), List.take_succ_eq_append_getElem (by omega), he, hx]
      · repeat (any_goals ((with_reducible refine idOQ ?_); (with_reducible refine oQ_of ⟨_, rfl⟩ (fun W0 hW0 => by (refine oM_gen (fun Kv hK => ?_)); simp [go_sem, ca _ hW0, cb _ hW0, hl, hx]; (first | exact hK _ _ ⟨rfl, rfl⟩ | exact ⟨by omega, hK _ _ ⟨rfl, rfl⟩⟩)) ?_)))
        intro w2 h2
        have k := k _ h2
        rw [decide_eq_false (by rintro rfl; exact hx rfl)] at k
        repeat (any_goals (with_reducible ((refine idCond ?_); refine yL ?_)))
        exact k
  · have hl' : ¬ (a.length : Int) = b.length := by omega
    have k := k _ (Below.refl _ _)
    rw [decide_eq_false (by rintro rfl; exact hl rfl)] at k
    repeat (any_goals (first
    | (with_reducible ((refine idCond ?_); refine yL ?_))
    | ((with_reducible refine idO ?_); (with_reducible refine oM_gen fun Kv hK=>?_); simp [go_sem, hl']; refine hK _ _ ?_; clear hK; clear Kv)))
    exact k
end
end Go.Proofs
namespace Go.Proofs
open Go Go.Sh Go.RowKit FdSpec TkSpec
set_option linter.unusedSimpArgs false
set_option linter.unusedVariables false
set_option maxRecDepth 10000
section
variable {K : Value → World → Prop} {w w0 : World} {L : List (Addr × Value)}
theorem accepts_len {s : Stp} {t : Tkt} {x : Spd} (h : acceptsM s t x = true) : x.answers.length = s.bases.length ∧ validS s = true := by
  unfold acceptsM at h
  split at h
  · rename_i hc
    simp only [Bool.and_eq_true, decide_eq_true_eq] at hc
    refine ⟨hc.1.2, ?_⟩
    have hf := hc.1.1.1
    unfold formedM at hf
    simp only [Bool.and_eq_true] at hf
    exact hf.1.1.1
  · cases h
def gapL (s : Stp) (a b : Spd) : List Int := (a.answers.zip b.answers).map fun p => lessQ s p.1 p.2
theorem gapL_len {s : Stp} {a b : Spd} {n : Nat} (ha : a.answers.length = n) (hb : b.answers.length = n) : (gapL s a b).length = n := by
  simp [gapL, ha, hb]
theorem gapL_at {s : Stp} {a b : Spd} {i : Nat} (ha : i < a.answers.length) (hb : i < b.answers.length) (hg : i < (gapL s a b).length) : (gapL s a b)[i] = lessQ s a.answers[i] b.answers[i] := by
  simp [gapL]
theorem gapL_rng {s : Stp} {a b : Spd} : ∀ n ∈ gapL s a b, I64 n := by
  intro n hn
  obtain ⟨p, _, rfl⟩ := List.mem_map.1 hn
  exact subM_I64 _ _ _
theorem gapsM_no {s : Stp} {t : Tkt} {a b : Spd} (h : a.dare = b.dare ∨ acceptsM s t a = false ∨ acceptsM s t b = false) : gapsM s t a b = ([], false) := by
  unfold gapsM
  rw [if_pos]
  rcases h with h | h | h <;> simp [h]
theorem gapsM_yes {s : Stp} {t : Tkt} {a b : Spd} (h1 : ¬ a.dare = b.dare) (h2 : acceptsM s t a = true) (h3 : acceptsM s t b = true) : gapsM s t a b = (gapL s a b, !decide ((gapL s a b).headD 0 = 0)) := by
  unfold gapsM
  rw [if_neg (by simp [h1, h2, h3])]
  rfl
theorem _root_.Go.Sh.KnM.add1 {g n : Nat} (h : KnM w0 L g n w) {b o : Nat} {v : Value} (hc : w.cell? ⟨b, o, none⟩ = some v) (hne : b ≠ g) : KnM w0 ((⟨b, o, none⟩, v) :: L) g n w :=
  ⟨⟨h.kn.below, hc, h.kn.cells⟩, h.mine, h.base, fun p hp => (List.mem_cons.1 hp).elim (fun e => by rw [e]; exact hne) (h.off p)⟩
theorem store_desk2 {K : Value → World → Prop} {T' : TypeId} {g : Nat} (s : Stp) (ad : Option Addr) (m c : Nat) (hk : KnM w0 L g 5 w)
    (k : ∀ W, KnM w0 L g 5 W → cellsAre W (cellsOf [] g 0 (stpC s (.slice ad m c))) → w.grownBy W (some g) → K undef W) : oM Tryz.prog (.store 111 (.tmp 0) (.tmp 1)) T' [.pointer (some ⟨g, 0, none⟩), stpV s (.slice ad m c)] K w := by
  obtain ⟨W, e, hg, hm, hc⟩ := store_run (P := Tryz.prog) (W := w) sz_desk (x := stpV s (.slice ad m c)) rfl rfl (stp_one s ad m c) hk.mine
  rw [oM_store, e]
  exact k W ⟨hk.kn.wrote hg hk.base hk.off, hm, hk.base, hk.off⟩ hc hg
@[reducible] def zstp : Stp := ⟨⟨0, 0, 0⟩, [], 0⟩
def GpJ (gl : List Int) (Wl : World) (vs : List Value) (w' : World) : Prop := Below Wl.heap.size Wl w' ∧ ∃ (v u o : Value) (i : Nat), vs = [v, u, o, .int .i64 (i : Int)] ∧ i ≤ gl.length ∧ OwnI w' Wl.heap.size o (gl.take i)
theorem gaps_ok (s : Stp) (t : Tkt) (x y : Spd) {v xv yv : Value} (ht : TktR t) (hs : SetR w s v) (hx : SpdR w x xv) (hy : SpdR w y yv)
    (k : ∀ w' s' ad n c ov, Below w.heap.size w w' → Ints w' ov (gapsM s t x y).1 → (∃ ad n c, ov = .slice ad n c ∧ n ≤ c) → ((gapsM s t x y).2 = true → stpV s' (.slice ad n c) = stpV s v) → K (.tuple #[stpV s' (.slice ad n c), ov, .bool (gapsM s t x y).2]) w') : callM Tryz.prog 120 #[stpV s v, tktV t, spdV x xv, spdV y yv] K w := by
  apply sh_120_ok
  unfold sh_120
  obtain ⟨ad, c, rfl⟩ := hs.ints.isSlice
  have hxa := hx.answers
  have hya := hy.answers
  have hx0 := hx
  have hy0 := hy
  obtain ⟨xad, xc, rfl⟩ := hx.answers.isSlice
  obtain ⟨yad, yc, rfl⟩ := hy.answers.isSlice
  have k0 : ∀ w', gapsM s t x y = ([], false) → Below w.heap.size w w' → K (.tuple #[stpV zstp (.slice none 0 0), .slice none 0 0, .bool false]) w' := fun w' e hb => by
    rw [e] at k
    exact k w' zstp none 0 0 _ hb (Ints.nil _) ⟨_, _, _, rfl, Nat.le_refl _⟩ (by simp)
  have k2 : ∀ w' ov l r, gapsM s t x y = (l, r) → Below w.heap.size w w' → Ints w' ov l → (∃ ad n c, ov = .slice ad n c ∧ n ≤ c) → K (.tuple #[stpV s (.slice ad s.bases.length c), ov, .bool r]) w' := fun w' ov l r e hb hi hcp => by
    rw [e] at k
    exact k w' s _ _ _ ov hb hi hcp (fun _ => rfl)
  clear k
  refine box_kn (cs := stpC s (.slice ad s.bases.length c)) rfl (.start w) fun b1 W hk hb1 hbb => ?_
  refine box_kn (cs := tktC t) rfl hk fun b2 W2 hk hb2 hbb => ?_
  refine box_kn (cs := spdC x (.slice xad x.answers.length xc)) rfl hk fun b3 W3 hk hb3 hbb => ?_
  refine box_kn (cs := spdC y (.slice yad y.answers.length yc)) rfl hk fun b4 W4 hk hb4 hbb => ?_
  refine alloc_mine (n := 5) al_desk rfl hk fun g W2 hk hb2 hg => ?_
  clear hb1 hb2 hb3 hb4
  by_cases hd : x.dare = y.dare
  · repeat (any_goals (first
    | (with_reducible first|((refine idGd ?_); refine zD ?_)|((refine idPick ?_); refine yB ?_)|((refine idCond ?_); refine yL ?_))
    | ((with_reducible refine idO ?_); (with_reducible refine oM_gen fun Kv hK=>?_); simp [go_sem, hk.cells, hd]; refine hK _ _ ?_; clear hK; clear Kv)))
    exact store_desk zstp none 0 0 hk (fun W3 hk hc => ⟨_, by simp [go_sem, hc], k0 _ (gapsM_no (.inl hd)) hk.below⟩)
  repeat (any_goals (first
  | (with_reducible ((refine idGd ?_); refine zC ?_))
  | ((with_reducible refine idO ?_); (with_reducible refine oM_gen fun Kv hK=>?_); simp [go_sem, hk.cells, hd]; refine hK _ _ ?_; clear hK; clear Kv)))
  refine Accepts_ok s t x ht (hs.next hk.below) (hx0.next hk.below) (fun w2 h2 => ?_)
  have hk := hk.next h2
  cases ha : acceptsM s t x with
  | false =>
    repeat (any_goals (first
    | (with_reducible first|((refine idGd ?_); first|refine zC ?_|refine zD ?_)|((refine idPick ?_); first|refine yB ?_|refine yC ?_)|((refine idCond ?_); refine yL ?_))
    | ((with_reducible refine idO ?_); (with_reducible refine oM_gen fun Kv hK=>?_); simp [go_sem, hk.cells]; refine hK _ _ ?_; clear hK; clear Kv)))
    exact store_desk zstp none 0 0 hk (fun W3 hk hc => ⟨_, by simp [go_sem, hc], k0 _ (gapsM_no (.inr (.inl ha))) hk.below⟩)
  | true =>
    repeat (any_goals (first
    | (with_reducible first|((refine idGd ?_); refine zC ?_)|((refine idPick ?_); refine yC ?_))
    | ((with_reducible refine idO ?_); (with_reducible refine oM_gen fun Kv hK=>?_); simp [go_sem, hk.cells]; refine hK _ _ ?_; clear hK; clear Kv)))
    refine Accepts_ok s t y ht (hs.next hk.below) (hy0.next hk.below) (fun w3 h3 => ?_)
    have hk := hk.next h3
    cases hb : acceptsM s t y with
    | false =>
      repeat (any_goals (first
      | (with_reducible first|((refine idGd ?_); refine zC ?_)|((refine idPick ?_); refine yC ?_)|((refine idCond ?_); refine yL ?_))
      | ((with_reducible refine idO ?_); (with_reducible refine oM_gen fun Kv hK=>?_); simp [go_sem, hk.cells]; refine hK _ _ ?_; clear hK; clear Kv)))
      exact store_desk zstp none 0 0 hk (fun W3 hk hc => ⟨_, by simp [go_sem, hc], k0 _ (gapsM_no (.inr (.inr hb))) hk.below⟩)
    | true =>
      have e0 := gapsM_yes hd ha hb
      obtain ⟨l1, hv⟩ := accepts_len ha
      obtain ⟨l2, _⟩ := accepts_len hb
      have hv7 := validS_len hv
      have hgl := gapL_len (s := s) l1 l2
      have hat := fun i h1 h2 h3 => gapL_at (s := s) (a := x) (b := y) (i := i) h1 h2 h3
      have hrng := gapL_rng (s := s) (a := x) (b := y)
      generalize gapL s x y = gl at *
      repeat (any_goals (first
      | ((with_reducible refine local_desk s ad s.bases.length c hk ?_); intro b7 W7 hk hb7 hg7)
      | (with_reducible first|((refine idGd ?_); refine zC ?_)|((refine idPick ?_); refine yC ?_)|((refine idCond ?_); refine yM ?_))
      | ((with_reducible refine idO ?_); (with_reducible refine oM_gen fun Kv hK=>?_); simp [go_sem, hk.cells]; refine hK _ _ ?_; clear hK; clear Kv)))
      have hgW : g < W7.heap.size := mine_lt hk.mine
      have hk0 := hk
      refine ⟨GpJ gl W7, pdMu x.answers.length, ⟨Below.refl _ _, _, _, _, 0, rfl, by omega, World.ownsRow_nil _ _ _ _⟩, ?_⟩
      rintro _ _ w5 ⟨h5, u1, u2, o, i, rfl, hi, ho⟩
      have hk := hk.next h5
      by_cases hin : i = x.answers.length
      · rw [List.take_of_length_le (by omega)] at ho
        have hints := ho.ints hrng (by omega)
        obtain ⟨g', cap, cur, rfl, hlt, hB, _, _, hcp, hcell⟩ := owns_cells ho (by omega)
        obtain ⟨x0, hx0⟩ : ∃ x0, gl.headD 0 = x0 := ⟨_, rfl⟩
        rw [hx0] at e0
        have c8 : w5.cell? ⟨g', 0, none⟩ = some (.int .i64 x0) := hcell 0 _ (by
          rw [flat_int, ← hx0]
          cases hgl2 : gl with
          | nil => rw [hgl2] at hgl; simp at hgl; omega
          | cons a l => rfl)
        have hk := hk.add1 c8 (by omega)
        have hgl8 : 0 < gl.length := by omega
        repeat (any_goals (first
        | (with_reducible ((refine idCond ?_); refine yO ?_))
        | ((with_reducible refine idO ?_); (with_reducible refine oM_gen fun Kv hK=>?_); simp [go_sem]; refine hK _ _ ?_; clear hK; clear Kv)))
        refine ⟨KnM w _ g 5, hk.drew, ?_⟩
        have hints := hints.next .drawn
        have hk := hk.drew
        repeat (any_goals (first
        | (with_reducible refine And.intro hk ?_)
        | (with_reducible refine pureH_in ?_)
        | ((with_reducible refine idOH ?_); (with_reducible refine oH_of ⟨_, rfl⟩ (fun W0 hW0 => by (refine oM_gen (fun Kv hK => ?_)); simp [go_sem, hW0.cells]; (first | exact hK _ _ ⟨rfl, rfl⟩ | exact ⟨by omega, hK _ _ ⟨rfl, rfl⟩⟩)) ?_))))
        refine store_desk2 s ad _ c hk (fun W3 hk hc hgr => ⟨hk, hk, hk, _, by simp [go_sem, hc], k2 _ _ _ _ e0 hk.below ⟨hints.row.keep hgr.size (fun i hi hlt => hgr.block i hlt ?_), hrng, by omega⟩ ⟨_, _, _, rfl, hcp⟩⟩)
        cases hi
        intro e
        have e2 : g' = g := Option.some.inj e
        omega
      · obtain ⟨b1, o1, rfl, hb1, ca, ra, _⟩ := hxa.at (i := i) (by omega)
        obtain ⟨b2, o2, rfl, hb2, cb, rb, _⟩ := hya.at (i := i) (by omega)
        repeat (any_goals (first
        | (with_reducible ((refine idCond ?_); refine yN ?_))
        | ((with_reducible refine idO ?_); (with_reducible refine oM_gen fun Kv hK=>?_); simp [go_sem, ca _ hk.below, hk.cells]; (first|refine hK _ _ ?_|refine And.intro (by omega) (hK _ _ ?_)); clear hK; clear Kv)))
        refine ⟨KnM w _ g 5, hk.drew, ?_⟩
        have h5 := h5.trans (Below.drawn (w := w5))
        have ho := ho.keep (Below.drawn (w := w5))
        have hk := hk.drew
        repeat (any_goals (first
        | (with_reducible refine And.intro hk ?_)
        | (with_reducible refine pureH_in ?_)
        | ((with_reducible refine idOH ?_); (with_reducible refine oH_of ⟨_, rfl⟩ (fun W0 hW0 => by (refine oM_gen (fun Kv hK => ?_)); simp [go_sem, hW0.cells, cb _ hW0.below]; (first | exact hK _ _ ⟨rfl, rfl⟩ | exact ⟨by omega, hK _ _ ⟨rfl, rfl⟩⟩)) ?_))))
        refine less_ok s _ _ (hs.next hk.below) (fun w6 h6 => ?_)
        have hk := hk.next h6
        have ho := ho.keep h6
        have h5 := h5.on h6
        refine ⟨hk, mk1 _ (subM_I64 _ _ _) (fun v7 w7 h7 hi7 => ?_)⟩
        have hk := hk.next h7
        have ho := ho.keep h7
        have h5 := h5.on h7
        refine ⟨hk, append1 ho h5.size hi7 (by simp; omega) (fun v8 w8 ho8 h8 => ?_)⟩
        have h5 := h5.trans h8
        have hk := hk0.next h5
        refine ⟨hk, ?_⟩
        repeat (any_goals (first
        | (with_reducible refine And.intro hk ?_)
        | ((with_reducible refine idO ?_); (with_reducible refine oM_gen fun Kv hK=>?_); simp [go_sem]; (try simp (disch := omega) only [wrapI64, wrapU8, wrapU32, wrapU64]); refine hK _ _ ?_; clear hK; clear Kv)))
        refine ⟨⟨h5, _, _, _, i + 1, rfl, by omega, ?_⟩, ?_⟩
        · rw [List.take_succ_eq_append_getElem (by omega), hat i (by omega) (by omega) (by omega)]
          exact ho8
        · simp only [pdMu_eq]; omega
end
end Go.Proofs
namespace Go.Proofs
open Go Go.Sh Go.RowKit FdSpec TkSpec
set_option linter.unusedSimpArgs false
set_option linter.unusedVariables false
set_option maxRecDepth 10000
section
variable {K : Value → World → Prop} {w w0 : World} {L : List (Addr × Value)}
theorem _root_.Go.Sh.Ints.tail {b o n c : Nat} {l : List Int} (h : Ints w (.slice (some ⟨b, o, none⟩) n c) l) (hne : 0 < l.length) : Ints w (.slice (some ⟨b, o + 1, none⟩) (n - 1) (c - 1)) l.tail := by
  obtain ⟨⟨ad, c', hv, h0, hc⟩, hr, hl⟩ := h
  cases hv
  refine ⟨⟨some ⟨b, o + 1, none⟩, c - 1, by rw [List.length_tail], by simp, ?_⟩, fun n hn => hr n (List.mem_of_mem_tail hn), by rw [List.length_tail]; omega⟩
  rcases hc with rfl | ⟨b', o', hbo, hlt, hcell⟩
  · simp at hne
  · cases hbo
    refine .inr ⟨b, o + 1, rfl, hlt, fun k x hk => ?_⟩
    have := hcell (k + 1) x (by
      rw [flat_int] at hk ⊢
      rw [← hk]
      simp)
    rw [show o + 1 + k = o + (k + 1) by omega]
    exact this
theorem traceM_no {s : Stp} {t : Tkt} {a b : Spd} (h : (gapsM s t a b).2 = false) : traceM s t a b = ([], false) := by
  unfold traceM; rw [if_neg (by simp [h])]
theorem gapsM_len {s : Stp} {t : Tkt} {a b : Spd} (h : (gapsM s t a b).2 = true) : (gapsM s t a b).1.length = s.bases.length ∧ validS s = true := by
  by_cases h1 : a.dare = b.dare
  · rw [gapsM_no (.inl h1)] at h; cases h
  cases h2 : acceptsM s t a with
  | false => rw [gapsM_no (.inr (.inl h2))] at h; cases h
  | true =>
    cases h3 : acceptsM s t b with
    | false => rw [gapsM_no (.inr (.inr h3))] at h; cases h
    | true =>
      rw [gapsM_yes h1 h2 h3]
      obtain ⟨l1, hv⟩ := accepts_len h2
      obtain ⟨l2, _⟩ := accepts_len h3
      exact ⟨gapL_len l1 l2, hv⟩
def TrJ (n : Nat) (tl : List Int) (Wl : World) (vs : List Value) (w' : World) : Prop := Below Wl.heap.size Wl w' ∧ ∃ (v o : Value) (i : Nat), vs = [v, o, .int .i64 (i : Int)] ∧ i ≤ n ∧ OwnI w' Wl.heap.size o (tl.take i)
theorem Trace_ok (s : Stp) (t : Tkt) (x y : Spd) {v xv yv : Value} (ht : TktR t) (hs : SetR w s v) (hx : SpdR w x xv) (hy : SpdR w y yv)
    (k : ∀ w' ov, Below w.heap.size w w' → Ints w' ov (traceM s t x y).1 → K (.tuple #[ov, .bool (traceM s t x y).2]) w') : callM Tryz.prog 48 #[stpV s v, tktV t, spdV x xv, spdV y yv] K w := by
  apply sh_48_ok
  unfold sh_48
  obtain ⟨ad, c, rfl⟩ := hs.ints.isSlice
  have hx0 := hx
  have hy0 := hy
  obtain ⟨xad, xc, rfl⟩ := hx.answers.isSlice
  obtain ⟨yad, yc, rfl⟩ := hy.answers.isSlice
  have k2 : ∀ w' ov r, traceM s t x y = r → Below w.heap.size w w' → Ints w' ov r.1 → K (.tuple #[ov, .bool r.2]) w' := fun w' ov r e hb hi => by
    rw [← e] at hi ⊢
    exact k w' ov hb hi
  clear k
  refine box_kn (cs := stpC s (.slice ad s.bases.length c)) rfl (.start w) fun b1 W hk hb1 hbb => ?_
  refine box_kn (cs := tktC t) rfl hk fun b2 W2 hk hb2 hbb => ?_
  refine box_kn (cs := spdC x (.slice xad x.answers.length xc)) rfl hk fun b3 W3 hk hb3 hbb => ?_
  refine box_kn (cs := spdC y (.slice yad y.answers.length yc)) rfl hk fun b4 W4 hk hb4 hbb => ?_
  clear hb1 hb2 hb3 hb4
  repeat (any_goals ((with_reducible refine idO ?_); (with_reducible refine oM_gen fun Kv hK=>?_); simp [go_sem, hk.cells]; refine hK _ _ ?_; clear hK; clear Kv))
  refine gaps_ok s t x y ht (hs.next hk.below) (hx0.next hk.below) (hy0.next hk.below) (fun w2 s' ad' n' c' ov h2 hgi hcap hds => ?_)
  have hk := hk.next h2
  have hT := traceM_no (s := s) (t := t) (a := x) (b := y)
  have hG := gapsM_len (s := s) (t := t) (a := x) (b := y)
  have eT : (gapsM s t x y).2 = true → traceM s t x y = ((gapsM s t x y).1.tail.map fun n => overQ s n ((gapsM s t x y).1.headD 0), true) := fun h => by unfold traceM; rw [if_pos h]
  obtain ⟨⟨gl, u⟩, hg⟩ : ∃ p, gapsM s t x y = p := ⟨_, rfl⟩
  rw [hg] at hT hG eT hgi hds ⊢
  simp only at hT hG eT hgi hds ⊢
  cases u with
  | false =>
    repeat (any_goals (first
    | ((with_reducible refine local_desk' s' ad' n' c' hk ?_); intro b7 W7 hk hb7 hg7)
    | (with_reducible ((refine idCond ?_); refine yL ?_))
    | ((with_reducible refine idO ?_); (with_reducible refine oM_gen fun Kv hK=>?_); simp [go_sem, hk.cells]; refine hK _ _ ?_; clear hK; clear Kv)))
    exact k2 _ _ _ (hT rfl) hk.below (Ints.nil _)
  | true =>
    have hds := hds rfl
    obtain ⟨hG, hv⟩ := hG rfl
    have hv7 := validS_len hv
    have eT2 := eT rfl
    clear eT
    rw [hds]
    obtain ⟨oad, n0, oc, rfl, hcp⟩ := hcap
    obtain ⟨ob, oo, rfl, c8, r8⟩ := hgi.headD (by omega)
    obtain ⟨oad2, oc2, hoe⟩ := hgi.isSlice
    cases hoe
    obtain ⟨x0, hx0⟩ : ∃ x0, gl.headD 0 = x0 := ⟨_, rfl⟩
    rw [hx0] at c8 r8 eT2
    repeat (any_goals (first
    | ((with_reducible refine local_desk' s ad s.bases.length c hk ?_); intro b7 W7 hk hb7 hg7)
    | (with_reducible ((refine idCond ?_); refine yM ?_))
    | ((with_reducible refine idO ?_); (with_reducible refine oM_gen fun Kv hK=>?_); simp [go_sem, hk.cells]; refine hK _ _ ?_; clear hK; clear Kv)))
    refine sliceFrom_at (by kernel_rfl) (sz := 1) (fun w => by kernel_rfl) 1 (by omega) (by omega) ?_
    have hti := (hgi.tail (by omega)).next hb7
    have c8 := fun w' hb => c8 w' (hb7.on hb)
    have htl : gl.tail.length = gl.length - 1 := List.length_tail
    have hat : ∀ (i : Nat) (y : Int), gl.tail[i]? = some y → (gl.tail.map fun n => overQ s n x0)[i]? = some (overQ s y x0) := fun i y h => by rw [List.getElem?_map, h]; rfl
    have hml : (gl.tail.map fun n => overQ s n x0).length = gl.tail.length := by simp
    have hrng : ∀ n ∈ (gl.tail.map fun n => overQ s n x0), I64 n := by
      intro n hn
      obtain ⟨m, _, rfl⟩ := List.mem_map.1 hn
      exact mulQ_I64 _ _ _ (by simp)
    generalize (gl.tail.map fun n => overQ s n x0) = tl at *
    generalize gl.tail = gt at *
    repeat (any_goals ((with_reducible refine idO ?_); (with_reducible refine oM_gen fun Kv hK=>?_); simp [go_sem]; refine hK _ _ ?_; clear hK; clear Kv))
    refine ⟨TrJ gt.length tl W7, vsMu gt.length, ⟨Below.refl _ _, _, _, 0, rfl, by omega, World.ownsRow_nil _ _ _ _⟩, ?_⟩
    have hk0 := hk
    rintro _ _ w5 ⟨h5, u1, o, i, rfl, hi, ho⟩
    have hk := hk0.next h5
    by_cases hin : i = gt.length
    · rw [List.take_of_length_le (by omega)] at ho
      repeat (any_goals (first
      | (with_reducible ((refine idCond ?_); refine yO ?_))
      | ((with_reducible refine idO ?_); (with_reducible refine oM_gen fun Kv hK=>?_); simp [go_sem]; refine hK _ _ ?_; clear hK; clear Kv)))
      exact k2 _ _ _ eT2 hk.below (ho.ints hrng (by omega))
    · obtain ⟨b1, o1, hbe, hb1, ca, ra, hnn⟩ := hti.at (i := i) (by omega)
      cases hbe
      repeat (any_goals (first
      | (with_reducible ((refine idCond ?_); refine yN ?_))
      | ((with_reducible refine idO ?_); (with_reducible refine oM_gen fun Kv hK=>?_); simp [go_sem, ca _ h5]; (first|refine hK _ _ ?_|refine And.intro (by omega) (hK _ _ ?_)); clear hK; clear Kv)))
      refine ⟨fun w' => Kn w _ w' ∧ Below W7.heap.size W7 w', ⟨hk.drew, h5.trans .drawn⟩, ?_⟩
      have h5 := h5.trans (Below.drawn (w := w5))
      have ho := ho.keep (Below.drawn (w := w5))
      have hk := hk.drew
      have hgl8 : 0 < gl.length := by omega
      repeat (any_goals (first
      | (with_reducible refine pureH_in ?_)
      | ((with_reducible refine idOH ?_); (with_reducible refine oH_of ⟨_, rfl⟩ (fun W0 hW0 => by (refine oM_gen (fun Kv hK => ?_)); simp [go_sem, hW0.1.cells, c8 _ hW0.2]; (first | exact hK _ _ ⟨rfl, rfl⟩ | exact ⟨by omega, hK _ _ ⟨rfl, rfl⟩⟩)) ?_))))
      refine over_ok s _ _ (hs.next hk.below) (fun w6 h6 => ?_)
      have hk := hk.next h6
      have ho := ho.keep h6
      have h5 := h5.on h6
      refine ⟨⟨hk, h5⟩, mk1 _ (mulQ_I64 _ _ _ (by simp)) (fun v7 w7 h7 hi7 => ?_)⟩
      have hk := hk.next h7
      have ho := ho.keep h7
      have h5 := h5.on h7
      refine ⟨⟨hk, h5⟩, append1 ho h5.size hi7 (by simp; omega) (fun v8 w8 ho8 h8 => ?_)⟩
      have h5 := h5.trans h8
      have hk := hk0.next h5
      refine ⟨⟨hk, h5⟩, ⟨hk, h5⟩, ?_⟩
      repeat (any_goals ((with_reducible refine idO ?_); (with_reducible refine oM_gen fun Kv hK=>?_); simp [go_sem]; (try simp (disch := omega) only [wrapI64, wrapU8, wrapU32, wrapU64]); refine hK _ _ ?_; clear hK; clear Kv))
      refine ⟨⟨h5, _, _, i + 1, rfl, by omega, ?_⟩, ?_⟩
      · have e2 : tl.take (i + 1) = tl.take i ++ [overQ s gt[i] x0] := by
          rw [List.take_add_one, hat i _ (List.getElem?_eq_getElem (by omega))]
          rfl
        rw [e2]
        exact ho8
      · simp only [vsMu_eq]; omega
end
end Go.Proofs
namespace Go.Proofs
open Go Go.Sh Go.RowKit FdSpec TkSpec
set_option linter.unusedSimpArgs false
set_option linter.unusedVariables false
set_option maxRecDepth 10000
section
variable {K : Value → World → Prop} {w w0 : World} {L : List (Addr × Value)}
theorem guiltyM_no {s : Stp} {t : Tkt} {a b : Spd} {l : List Int} (h : (gapsM s t a b).2 = false ∨ l.length + 1 ≠ (gapsM s t a b).1.length ∨ numsM s 0 l = false) : guiltyM s t a b l = false := by
  unfold guiltyM
  rw [if_neg]
  rcases h with h | h | h <;> simp [h]
def GuJ (ps : List (Int × Int)) (f : Int × Int → Bool) (R : Bool) (Wl : World) (vs : List Value) (w' : World) : Prop := Below Wl.heap.size Wl w' ∧ ∃ (v u o : Value) (i : Nat), vs = [v, u, o, .int .i64 (i : Int)] ∧ i ≤ ps.length ∧ (ps.drop i).all f = R
theorem Guilty_ok (s : Stp) (t : Tkt) (x y : Spd) {v xv yv lv : Value} {l : List Int} (ht : TktR t) (hs : SetR w s v) (hx : SpdR w x xv) (hy : SpdR w y yv) (hl : Ints w lv l)
    (k : ∀ w', Below w.heap.size w w' → K (.bool (guiltyM s t x y l)) w') : callM Tryz.prog 60 #[stpV s v, tktV t, spdV x xv, spdV y yv, lv] K w := by
  apply sh_60_ok
  unfold sh_60
  obtain ⟨ad, c, rfl⟩ := hs.ints.isSlice
  have hx0 := hx
  have hy0 := hy
  obtain ⟨xad, xc, rfl⟩ := hx.answers.isSlice
  obtain ⟨yad, yc, rfl⟩ := hy.answers.isSlice
  obtain ⟨lad, lc, rfl⟩ := hl.isSlice
  have hll := hl.len
  have k2 : ∀ w' r, guiltyM s t x y l = r → Below w.heap.size w w' → K (.bool r) w' := fun w' r e hb => by
    rw [← e]
    exact k w' hb
  clear k
  refine box_kn (cs := stpC s (.slice ad s.bases.length c)) rfl (.start w) fun b1 W hk hb1 hbb => ?_
  refine box_kn (cs := tktC t) rfl hk fun b2 W2 hk hb2 hbb => ?_
  refine box_kn (cs := spdC x (.slice xad x.answers.length xc)) rfl hk fun b3 W3 hk hb3 hbb => ?_
  refine box_kn (cs := spdC y (.slice yad y.answers.length yc)) rfl hk fun b4 W4 hk hb4 hbb => ?_
  clear hb1 hb2 hb3 hb4
  repeat (any_goals ((with_reducible refine idO ?_); (with_reducible refine oM_gen fun Kv hK=>?_); simp [go_sem, hk.cells]; refine hK _ _ ?_; clear hK; clear Kv))
  refine gaps_ok s t x y ht (hs.next hk.below) (hx0.next hk.below) (hy0.next hk.below) (fun w2 s' ad' n' c' ov h2 hgi hcap hds => ?_)
  have hk := hk.next h2
  have hN := guiltyM_no (s := s) (t := t) (a := x) (b := y) (l := l)
  have hG := gapsM_len (s := s) (t := t) (a := x) (b := y)
  have eT : (gapsM s t x y).2 = true → l.length + 1 = (gapsM s t x y).1.length → numsM s 0 l = true → guiltyM s t x y l = (l.zip (gapsM s t x y).1.tail).all fun p => decide (mulQ s p.1 [(gapsM s t x y).1.headD 0] = p.2) := fun h1 h2 h3 => by
    unfold guiltyM; rw [if_pos (by rw [h1, h3, decide_eq_true h2]; rfl)]
  obtain ⟨⟨gl, u⟩, hg⟩ : ∃ p, gapsM s t x y = p := ⟨_, rfl⟩
  rw [hg] at hN hG eT hgi hds ⊢
  simp only at hN hG eT hgi hds ⊢
  obtain ⟨oad0, oc0, rfl⟩ := hgi.isSlice
  have hgl := hgi.len
  cases u with
  | false =>
    repeat (any_goals (first
    | ((with_reducible refine local_desk' s' ad' n' c' hk ?_); intro b7 W7 hk hb7 hg7)
    | (with_reducible first|((refine idGd ?_); refine zD ?_)|((refine idPick ?_); refine yB ?_)|((refine idCond ?_); refine yL ?_))
    | ((with_reducible refine idO ?_); (with_reducible refine oM_gen fun Kv hK=>?_); simp [go_sem, hk.cells]; refine hK _ _ ?_; clear hK; clear Kv)))
    exact k2 _ _ (hN (.inl rfl)) hk.below
  | true =>
    have hds := hds rfl
    obtain ⟨hG, hv⟩ := hG rfl
    have hv7 := validS_len hv
    rw [hds]
    by_cases hlen : l.length + 1 = gl.length
    · repeat (any_goals (first
      | ((with_reducible refine local_desk' s ad s.bases.length c hk ?_); intro b7 W7 hk hb7 hg7)
      | (with_reducible first|refine pureM_in ?_|((refine idGd ?_); first|refine zC ?_|((refine idGdN ?_); refine zO ?_))|((refine idPick ?_); refine yC ?_))
      | ((with_reducible refine idO ?_); (with_reducible refine oM_gen fun Kv hK=>?_); simp [go_sem, hk.cells]; (try simp (disch := omega) only [wrapI64, wrapU8, wrapU32, wrapU64]); refine hK _ _ ?_; clear hK; clear Kv)))
      have hk0 := hk
      refine nums_ok s 0 (hs.next hk.below) (hl.next hk.below) (fun w3 h3 => ?_)
      have hk := hk.next h3
      cases hn : numsM s 0 l with
      | false =>
        repeat (any_goals (first
        | (with_reducible first|((refine idGd ?_); ((refine idGdN ?_); refine zO ?_))|((refine idPick ?_); refine yG ?_)|((refine idCond ?_); refine yL ?_))
        | ((with_reducible refine idO ?_); (with_reducible refine oM_gen fun Kv hK=>?_); simp [go_sem, hk.cells]; refine hK _ _ ?_; clear hK; clear Kv)))
        exact k2 _ _ (hN (.inr (.inr hn))) hk.below
      | true =>
        have eT2 := eT rfl hlen hn
        obtain ⟨x0, hx0⟩ : ∃ x0, gl.headD 0 = x0 := ⟨_, rfl⟩
        obtain ⟨ob, oo, rfl, c8, r8⟩ := hgi.headD (by omega)
        rw [hx0] at c8 r8 eT2
        have c8 := fun w' hb => c8 w' (hb7.on (h3.on hb))
        have hgi3 := (hgi.next hb7).next h3
        have hzl : (l.zip gl.tail).length = l.length := by simp; omega
        repeat (any_goals (first
        | (with_reducible first|((refine idGd ?_); ((refine idGdN ?_); refine zO ?_))|((refine idPick ?_); refine yG ?_)|((refine idCond ?_); refine yM ?_))
        | ((with_reducible refine idO ?_); (with_reducible refine oM_gen fun Kv hK=>?_); simp [go_sem, hk.cells]; refine hK _ _ ?_; clear hK; clear Kv)))
        refine ⟨GuJ (l.zip gl.tail) (fun p => decide (mulQ s p.1 [x0] = p.2)) _ w3, pdMu l.length, ⟨Below.refl _ _, _, _, _, 0, rfl, by omega, rfl⟩, ?_⟩
        have hk0 := hk
        rintro _ _ w5 ⟨h5, u1, u2, u3, i, rfl, hi, hall⟩
        rw [hzl] at hi
        have hk := hk0.next h5
        by_cases hin : i = l.length
        · rw [List.drop_of_length_le (by omega), List.all_nil] at hall
          repeat (any_goals (first
          | (with_reducible ((refine idCond ?_); refine yO ?_))
          | ((with_reducible refine idO ?_); (with_reducible refine oM_gen fun Kv hK=>?_); simp [go_sem]; refine hK _ _ ?_; clear hK; clear Kv)))
          exact k2 _ _ (eT2.trans hall.symm) hk.below
        · rw [zip_drop l gl.tail i (by omega) (by rw [List.length_tail]; omega), List.all_cons] at hall
          simp only [List.getElem_tail] at hall
          obtain ⟨b1, o1, rfl, hb1, ca, ra, _⟩ := hl.at (i := i) (by omega)
          obtain ⟨b2, o2, hbe, hb2, cb, rb, _⟩ := hgi3.at (i := i + 1) (by omega)
          cases hbe
          repeat (any_goals (first
          | (with_reducible ((refine idCond ?_); refine yN ?_))
          | ((with_reducible refine idO ?_); (with_reducible refine oM_gen fun Kv hK=>?_); simp [go_sem, ca _ hk.below, hk.cells]; (first|refine hK _ _ ?_|refine And.intro (by omega) (hK _ _ ?_)); clear hK; clear Kv)))
          refine ⟨fun w' => Kn w _ w' ∧ Below w3.heap.size w3 w', ⟨hk.drew, h5.trans .drawn⟩, ?_⟩
          have h5 := h5.trans (Below.drawn (w := w5))
          have hk := hk.drew
          have hgl8 : 0 < gl.length := by omega
          have e7 : IntKind.i64.wrap ((i : Int) + 1) = ((i + 1 : Nat) : Int) := by rw [wrapI64 _ (by omega) (by omega)]; omega
          repeat (any_goals (first
          | ((with_reducible refine mk1 x0 r8 ?_); intro v7 w7 h7 hi7)
          | (with_reducible refine pureH_in ?_)
          | ((with_reducible refine idOH ?_); (with_reducible refine oH_of ⟨_, rfl⟩ (fun W0 hW0 => by (refine oM_gen (fun Kv hK => ?_)); simp [go_sem, hW0.1.cells, c8 _ hW0.2, e7, cb _ hW0.2]; (first | exact hK _ _ ⟨rfl, rfl⟩ | exact ⟨by omega, hK _ _ ⟨rfl, rfl⟩⟩)) ?_))))
          have hk := hk.next h7
          have h5 := h5.on h7
          refine ⟨⟨hk, h5⟩, mul_ok s _ (hs.next hk.below) hi7 (fun w8 h8 => ?_)⟩
          have hk := hk.next h8
          have h5 := h5.on h8
          refine ⟨⟨hk, h5⟩, ?_⟩
          by_cases he : mulQ s l[i] [x0] = gl[i + 1]
          · repeat (any_goals ((with_reducible refine idO ?_); (with_reducible refine oM_gen fun Kv hK=>?_); simp [go_sem]; refine hK _ _ ?_; clear hK; clear Kv))
            refine ⟨⟨hk, h5⟩, ?_⟩
            repeat (any_goals (first
            | (with_reducible ((refine idCond ?_); refine yR ?_))
            | ((with_reducible refine idO ?_); (with_reducible refine oM_gen fun Kv hK=>?_); simp [go_sem, he]; (try simp (disch := omega) only [wrapI64, wrapU8, wrapU32, wrapU64]); refine hK _ _ ?_; clear hK; clear Kv)))
            rw [decide_eq_true he, Bool.true_and] at hall
            refine ⟨⟨h5, _, _, _, i + 1, rfl, by omega, hall⟩, ?_⟩
            simp only [pdMu_eq]; omega
          · repeat (any_goals ((with_reducible refine idO ?_); (with_reducible refine oM_gen fun Kv hK=>?_); simp [go_sem]; refine hK _ _ ?_; clear hK; clear Kv))
            refine ⟨⟨hk, h5⟩, ?_⟩
            repeat (any_goals (with_reducible ((refine idCond ?_); refine yQ ?_)))
            rw [decide_eq_false he, Bool.false_and] at hall
            exact k2 _ _ (eT2.trans hall.symm) hk.below
    · repeat (any_goals (first
      | ((with_reducible refine local_desk' s ad s.bases.length c hk ?_); intro b7 W7 hk hb7 hg7)
      | (with_reducible first|refine pureM_in ?_|((refine idGd ?_); first|refine zC ?_|((refine idGdN ?_); refine zP ?_))|((refine idPick ?_); first|refine yC ?_|refine yF ?_)|((refine idCond ?_); refine yL ?_))
      | ((with_reducible refine idO ?_); (with_reducible refine oM_gen fun Kv hK=>?_); simp [go_sem, hk.cells]; (try simp (disch := omega) only [wrapI64, wrapU8, wrapU32, wrapU64]); refine hK _ _ ?_; clear hK; clear Kv)))
      exact k2 _ _ (hN (.inr (.inl hlen))) hk.below
end
end Go.Proofs
namespace Go.Proofs
open Go Go.Sh Go.RowKit FdSpec TkSpec
set_option linter.unusedSimpArgs false
set_option linter.unusedVariables false
set_option maxRecDepth 10000
section
variable {K : Value → World → Prop} {w w0 w1 : World} {L : List (Addr × Value)}
theorem sz_spd (w : World) : (sizeOf 47).run Tryz.prog w = .ok 2 w := by kernel_rfl
theorem sz_ints (w : World) : (sizeOf 22).run Tryz.prog w = .ok 1 w := by kernel_rfl
theorem al_spd (w : World) : (Instr.alloc 47 true (.tuple #[])).run Tryz.prog w = .ok (.pointer (some ⟨w.heap.size, 0, none⟩)) (w.alloc (.cells [.int .i64 0, .slice none 0 0].toArray 47)) := by kernel_rfl
theorem spd_one (x : Spd) (ad : Option Addr) (n c : Nat) : ∀ u ∈ spdC x (.slice ad n c), u.oneCell' = true := by
  intro u hu
  simp only [spdC, List.mem_cons, List.not_mem_nil, or_false] at hu
  rcases hu with rfl | rfl <;> rfl
theorem store_spd {K : Value → World → Prop} {T' : TypeId} {g : Nat} (x : Spd) (ad : Option Addr) (m c : Nat) (hk : KnM w0 L g 2 w)
    (k : ∀ W, KnM w0 L g 2 W → cellsAre W (cellsOf [] g 0 (spdC x (.slice ad m c))) → w.grownBy W (some g) → K undef W) : oM Tryz.prog (.store 47 (.tmp 0) (.tmp 1)) T' [.pointer (some ⟨g, 0, none⟩), spdV x (.slice ad m c)] K w := by
  obtain ⟨W, e, hg, hm, hc⟩ := store_run (P := Tryz.prog) (W := w) sz_spd (x := spdV x (.slice ad m c)) rfl rfl (spd_one x ad m c) hk.mine
  rw [oM_store, e]
  exact k W ⟨hk.kn.wrote hg hk.base hk.off, hm, hk.base, hk.off⟩ hc hg
theorem store_row {P : Program} {T T0 : TypeId} {g o n : Nat} {cur : Array Value} {x : Value} {xs : List Value} (hT : ∀ w, (sizeOf T).run P w = .ok n w) (hx : x.cells = xs.toArray) (hl : xs.length = n) (h1 : ∀ u ∈ xs, u.oneCell' = true) (hg : w.heap[g]? = some (.cells cur T0 (0, 0))) (hfit : o + n ≤ cur.size) :
    (Instr.storeAt T (.pointer (some ⟨g, o, none⟩)) x).run P w = .ok () (w.setRow g (cur.toList.take o ++ xs ++ cur.toList.drop (o + xs.length)).toArray) := by
  have hst := run_storeCells_at P g o T0 xs 0 cur w hg (by omega) h1
  rw [Nat.add_zero] at hst
  unfold Instr.storeAt storeVar
  have e2 : x.cells.toList = xs := by rw [hx]
  have e3 : x.cells.size = n := by rw [hx]; simpa using hl
  rw [e2, e3]
  rw [List.append_assoc] at hst ⊢
  simp [hT, go_sem]
  exact hst
theorem local_spd {K : Value → World → Prop} {T' T2 : TypeId} {g n : Nat} (x : Spd) (hk : KnM w0 L g n w)
    (k : ∀ b W, KnM w0 L g n W → Below w.heap.size w W → w.heap.size ≤ b → W.heap[b]? = some (.cells #[.int .i64 x.dare, .slice none 0 0] 47 (0, 0)) → K (.pointer (some ⟨b, 0, none⟩)) W) :
    oM Tryz.prog (.alloc 47) T' [] (fun v w => oM Tryz.prog (.store 47 (.tmp 0) (.tmp 1)) T2 [v, spdV x (.slice none 0 0)] (fun _ w => K v w) w) w := by
  rw [oM_alloc, al_spd, rM_ok]
  have hb := (Below.refl w.heap.size w).alloc (Nat.le_refl _) (.cells [Value.int .i64 0, .slice none 0 0].toArray 47)
  have hg0 : (w.alloc (.cells [Value.int .i64 0, .slice none 0 0].toArray 47)).heap[w.heap.size]? = some (.cells [Value.int .i64 0, .slice none 0 0].toArray 47 (0, 0)) := Array.getElem?_push_size
  generalize w.alloc (.cells [Value.int .i64 0, .slice none 0 0].toArray 47) = W at *
  have hrun := store_row (P := Tryz.prog) (w := W) (o := 0) sz_spd (x := spdV x (.slice none 0 0)) rfl rfl (spd_one x none 0 0) hg0 (by simp)
  have e1 : ([Value.int .i64 0, .slice none 0 0].toArray.toList.take 0 ++ spdC x (.slice none 0 0) ++ [Value.int .i64 0, .slice none 0 0].toArray.toList.drop (0 + (spdC x (.slice none 0 0)).length)).toArray = #[.int .i64 x.dare, .slice none 0 0] := by simp
  rw [e1] at hrun
  have hh := setRow_heap W w.heap.size _ #[Value.int .i64 x.dare, .slice none 0 0] 47 (0, 0) hg0
  rw [oM_store, hrun]
  have hb2 : Below w.heap.size w (W.setRow w.heap.size #[Value.int .i64 x.dare, .slice none 0 0]) := hb.grown (grown_setRow _ _ _) hb.size (fun k hk => by cases hk; exact Nat.le_refl _)
  exact k _ _ (hk.next hb2) hb2 (Nat.le_refl _) hh
theorem store_second {K : Value → World → Prop} {T' : TypeId} {g : Nat} {ad : Option Addr} {m c : Nat} {a b : Value} (hg : w.heap[g]? = some (.cells #[a, b] 47 (0, 0)))
    (k : ∀ W, w.grownBy W (some g) → W.heap[g]? = some (.cells #[a, .slice ad m c] 47 (0, 0)) → K undef W) : oM Tryz.prog (.store 22 (.tmp 0) (.tmp 1)) T' [.pointer (some ⟨g, 1, none⟩), .slice ad m c] K w := by
  have hrun := store_row (P := Tryz.prog) (o := 1) sz_ints (x := .slice ad m c) rfl rfl (xs := [Value.slice ad m c]) (by intro u hu; simp at hu; subst hu; rfl) hg (by simp)
  have hh := setRow_heap w g _ #[a, .slice ad m c] 47 (0, 0) hg
  have e1 : (#[a, b].toList.take 1 ++ [Value.slice ad m c] ++ #[a, b].toList.drop (1 + [Value.slice ad m c].length)).toArray = #[a, .slice ad m c] := by simp
  rw [e1] at hrun
  rw [oM_store, hrun]
  exact k _ (grown_setRow _ _ _) hh
abbrev FrG (g : Nat) (w w' : World) : Prop := Fr (fun i => i = g) w w'
theorem FrG.next {g : Nat} {w' : World} (h : FrG g w w1) (hb : Below w1.heap.size w1 w') : FrG g w w' :=
  h.trans (S' := fun _ => False) ⟨hb.os, hb.tape, hb.output, hb.size, fun i hi _ => hb.block i hi⟩ (fun _ h => h.elim)
theorem FrG.below {g : Nat} {w' : World} (h0 : Below w.heap.size w w1) (h : FrG g w1 w') (hg : w.heap.size ≤ g) : Below w.heap.size w w' :=
  ⟨h.os.trans h0.os, h.tape.trans h0.tape, h.output.trans h0.output, Nat.le_trans h0.size h.size, fun i hi => (h.block i (Nat.lt_of_lt_of_le hi h0.size) (fun e => by omega)).trans (h0.block i hi)⟩
theorem cellsAre_fr {g : Nat} {w' : World} (hL : cellsAre w L) (h : FrG g w w') (hn : ∀ p ∈ L, p.1.block ≠ g) : cellsAre w' L :=
  cellsAre_keepBut hL hn fun a ha hna => World.cell?_of_block (w := w) (h.block _ ha hna)
theorem _root_.Go.Sh.KnM.fr {g n g' : Nat} {w' : World} (hk : KnM w0 L g n w) (h : FrG g' w w') (hoff : ∀ p ∈ L, p.1.block ≠ g') (hne : g ≠ g') (hb : w0.heap.size ≤ g') : KnM w0 L g n w' := by
  obtain ⟨cur, T, h1, h2⟩ := hk.mine
  exact ⟨⟨FrG.below hk.below h hb, cellsAre_fr hk.cells h hoff⟩, ⟨cur, T, by rw [h.block g (mine_lt hk.mine) hne]; exact h1, h2⟩, hk.base, hk.off⟩
theorem Ints.fr {g : Nat} {w' : World} {v : Value} {l : List Int} (hi : Ints w v l) (h : FrG g w w') (hne : ∀ i, Value.inBlock v = some i → i ≠ g) : Ints w' v l :=
  ⟨hi.row.keep h.size (fun i e hlt => h.block i hlt (hne i e)), hi.rng, hi.len⟩
def UsC (St : World → Prop) (j : Nat) (w' : World) : Prop := j ≤ 4 → St w'
theorem usGet {St : World → Prop} {n : Nat} {w' : World} (h : upto (UsC St) n w') (hn : n ≤ 4) : St w' := by
  obtain ⟨s, hs, hc⟩ := h
  exact hc (Nat.le_trans hs hn)
end
end Go.Proofs
namespace Go.Proofs
open Go Go.Sh Go.RowKit FdSpec TkSpec
set_option linter.unusedSimpArgs false
set_option linter.unusedVariables false
set_option maxRecDepth 10000
section
variable {K : Value → World → Prop} {w w0 w1 : World} {L : List (Addr × Value)}
def ansL (s : Stp) (l : List Int) (b : Bld) (dare : Int) : List Int := ((expsM l).zip b.ys).map fun p => plusQ s p.2 (mulQ s dare [b.s, p.1])
theorem useM_no {s : Stp} {l : List Int} {b : Bld} {dare : Int} (h : (usableM s l).2 = false ∨ blindsM s b = false ∨ numsM s 1 [dare] = false) : useM s l b dare = (⟨0, []⟩, false) := by
  unfold useM
  rw [if_neg]
  rcases h with h | h | h <;> simp [h]
theorem useM_yes {s : Stp} {l : List Int} {b : Bld} {dare : Int} (h1 : (usableM s l).2 = true) (h2 : blindsM s b = true) (h3 : numsM s 1 [dare] = true) : useM s l b dare = (⟨dare, ansL s l b dare⟩, true) := by
  unfold useM
  rw [if_pos (by rw [h1, h2, h3]; rfl)]
  rfl
theorem usable_len {s : Stp} {l : List Int} (h : (usableM s l).2 = true) : l.length + 1 = s.bases.length ∧ validS s = true := by
  unfold usableM at h
  simp only [Bool.and_eq_true] at h
  have h := h.1
  unfold markM at h
  split at h
  · rename_i hc
    simp only [Bool.and_eq_true, decide_eq_true_eq] at hc
    exact ⟨hc.1.1.2, hc.1.1.1⟩
  · cases h
theorem blinds_len {s : Stp} {b : Bld} (h : blindsM s b = true) : b.ys.length = s.bases.length := by
  unfold blindsM at h
  simp only [Bool.and_eq_true, decide_eq_true_eq] at h
  exact h.1.2
def UsJ (al : List Int) (dare : Int) (g13 : Nat) (Wl : World) (vs : List Value) (w' : World) : Prop := FrG g13 Wl w' ∧ ∃ (v u ov : Value) (i : Nat), vs = [v, u, .int .i64 (i : Int)] ∧ i ≤ al.length ∧ OwnI w' Wl.heap.size ov (al.take i) ∧ w'.heap[g13]? = some (.cells #[.int .i64 dare, ov] 47 (0, 0))
theorem Use_ok (s : Stp) (b : Bld) (dare : Int) {v bv lv : Value} {l : List Int} (hd : I64 dare) (hs : SetR w s v) (hl : Ints w lv l) (hb : BldR w b bv)
    (k : ∀ w' ov, Below w.heap.size w w' → Ints w' ov (useM s l b dare).1.answers → K (.tuple #[spdV (useM s l b dare).1 ov, .bool (useM s l b dare).2]) w') : callM Tryz.prog 13 #[stpV s v, lv, bldV b bv, .int .i64 dare] K w := by
  apply sh_13_ok
  unfold sh_13
  obtain ⟨ad, c, rfl⟩ := hs.ints.isSlice
  have hys := hb.ys
  have hb0 := hb
  obtain ⟨yad, yc, rfl⟩ := hb.ys.isSlice
  have k2 : ∀ w' ov r, useM s l b dare = r → Below w.heap.size w w' → Ints w' ov r.1.answers → K (.tuple #[spdV r.1 ov, .bool r.2]) w' := fun w' ov r e hb hi => by
    rw [← e] at hi ⊢
    exact k w' ov hb hi
  clear k
  refine box_kn (cs := stpC s (.slice ad s.bases.length c)) rfl (.start w) fun b1 W hk hb1 hbb => ?_
  refine box_kn (cs := bldC b (.slice yad b.ys.length yc)) rfl hk fun b2 W2 hk hb2 hbb => ?_
  refine alloc_mine (n := 2) al_spd rfl hk fun g W2 hk hb2 hg => ?_
  clear hb1 hb2
  repeat (any_goals ((with_reducible refine idO ?_); (with_reducible refine oM_gen fun Kv hK=>?_); simp [go_sem, hk.cells]; refine hK _ _ ?_; clear hK; clear Kv))
  refine usable_ok s (hs.next hk.below) (hl.next hk.below) (fun w2 h2 => ?_)
  have hk := hk.next h2
  clear h2
  have hno := useM_no (s := s) (l := l) (b := b) (dare := dare)
  cases hu : (usableM s l).2 with
  | false =>
    repeat (any_goals (first
    | ((with_reducible refine local_desk s ad s.bases.length c hk ?_); intro b7 W7 hk hb7 hg7)
    | (with_reducible first|((refine idGd ?_); refine zD ?_)|((refine idPick ?_); refine yB ?_)|((refine idCond ?_); refine yL ?_))
    | ((with_reducible refine idO ?_); (with_reducible refine oM_gen fun Kv hK=>?_); simp [go_sem, hk.cells]; refine hK _ _ ?_; clear hK; clear Kv)))
    exact store_spd ⟨0, []⟩ none 0 0 hk (fun W3 hk hc _ => ⟨_, by simp [go_sem, hc], k2 _ _ _ (hno (.inl hu)) hk.below (Ints.nil _)⟩)
  | true =>
    obtain ⟨hll, hv⟩ := usable_len hu
    have hv7 := validS_len hv
    repeat (any_goals (first
    | ((with_reducible refine local_desk s ad s.bases.length c hk ?_); intro b7 W7 hk hb7 hg7)
    | (with_reducible ((refine idGd ?_); refine zC ?_))
    | ((with_reducible refine idO ?_); (with_reducible refine oM_gen fun Kv hK=>?_); simp [go_sem, hk.cells]; refine hK _ _ ?_; clear hK; clear Kv)))
    refine blinds_ok s b (hs.next hk.below) (hb0.next hk.below) (fun w3 h3 => ?_)
    have hk := hk.next h3
    cases hbl : blindsM s b with
    | false =>
      repeat (any_goals (first
      | (with_reducible first|((refine idGd ?_); first|refine zC ?_|refine zD ?_)|((refine idPick ?_); first|refine yB ?_|refine yC ?_)|((refine idCond ?_); refine yL ?_))
      | ((with_reducible refine idO ?_); (with_reducible refine oM_gen fun Kv hK=>?_); simp [go_sem, hk.cells]; refine hK _ _ ?_; clear hK; clear Kv)))
      exact store_spd ⟨0, []⟩ none 0 0 hk (fun W3 hk hc _ => ⟨_, by simp [go_sem, hc], k2 _ _ _ (hno (.inr (.inl hbl))) hk.below (Ints.nil _)⟩)
    | true =>
      have hyl := blinds_len hbl
      repeat (any_goals (first
      | ((with_reducible refine mk1 dare hd ?_); intro v8 W8 hb8 hi)
      | (with_reducible first|refine pureM_in ?_|((refine idGd ?_); refine zC ?_)|((refine idPick ?_); refine yC ?_))
      | ((with_reducible refine idO ?_); (with_reducible refine oM_gen fun Kv hK=>?_); simp [go_sem, hk.cells]; refine hK _ _ ?_; clear hK; clear Kv)))
      have hk := hk.next hb8
      refine nums_ok s 1 (hs.next hk.below) hi (fun w4 h4 => ?_)
      have hk := hk.next h4
      cases hn : numsM s 1 [dare] with
      | false =>
        repeat (any_goals (first
        | (with_reducible first|((refine idGd ?_); refine zC ?_)|((refine idPick ?_); refine yC ?_)|((refine idCond ?_); refine yL ?_))
        | ((with_reducible refine idO ?_); (with_reducible refine oM_gen fun Kv hK=>?_); simp [go_sem, hk.cells]; refine hK _ _ ?_; clear hK; clear Kv)))
        exact store_spd ⟨0, []⟩ none 0 0 hk (fun W3 hk hc _ => ⟨_, by simp [go_sem, hc], k2 _ _ _ (hno (.inr (.inr hn))) hk.below (Ints.nil _)⟩)
      | true =>
        have ey := useM_yes hu hbl hn
        have hgW : g < w4.heap.size := mine_lt hk.mine
        have hoffL := cells_lt hk.cells
        repeat (any_goals (first
        | ((with_reducible refine local_spd ⟨dare, []⟩ hk ?_); intro g13 W9 hk hb9 hg13 hh13)
        | (with_reducible first|((refine idGd ?_); refine zC ?_)|((refine idPick ?_); refine yC ?_)|((refine idCond ?_); refine yM ?_))
        | ((with_reducible refine idO ?_); (with_reducible refine oM_gen fun Kv hK=>?_); simp [go_sem, hk.cells]; refine hK _ _ ?_; clear hK; clear Kv)))
        refine exps_ok (hl.next hk.below) (by omega) (by omega) (fun ev w5 he h5 hff => ?_)
        have hg13W := (Array.getElem?_eq_some_iff.1 hh13).1
        have hh13 : w5.heap[g13]? = some (.cells #[.int .i64 dare, .slice none 0 0] 47 (0, 0)) := by rw [h5.block g13 hg13W]; exact hh13
        have hk := hk.next h5
        have hel : (expsM l).length = l.length + 1 := rfl
        have hal : (ansL s l b dare).length = l.length + 1 := by simp [ansL, hel]; omega
        have hat : ∀ (i : Nat) (h1 : i < (expsM l).length) (h2 : i < b.ys.length), (ansL s l b dare)[i]? = some (plusQ s b.ys[i] (mulQ s dare [b.s, (expsM l)[i]])) := fun i h1 h2 => by
          simp [ansL, h1, h2, List.getElem?_zip_eq_some]
          exact ⟨_, _, ⟨rfl, rfl⟩, rfl⟩
        have hrng : ∀ n ∈ ansL s l b dare, I64 n := by
          intro n hn
          obtain ⟨m, _, rfl⟩ := List.mem_map.1 hn
          exact addM_I64 _ _ _
        generalize ansL s l b dare = al at *
        obtain ⟨ead, ec, rfl⟩ := he.isSlice
        have hs5 := h5.size
        have hs9 := hb9.size
        have hing : ∀ i, Value.inBlock (.slice ead (expsM l).length ec) = some i → i ≠ g13 := fun i hi => by
          have := hff i hi
          omega
        repeat (any_goals ((with_reducible refine idO ?_); (with_reducible refine oM_gen fun Kv hK=>?_); simp [go_sem]; refine hK _ _ ?_; clear hK; clear Kv))
        refine ⟨UsJ al dare g13 w5, vsMu (expsM l).length, ⟨Fr.refl _ _, _, _, .slice none 0 0, 0, rfl, by omega, World.ownsRow_nil _ _ _ _, hh13⟩, ?_⟩
        have hk0 := hk
        have hgne : g ≠ g13 := by omega
        have hoff13 : ∀ p ∈ cellsOf (cellsOf (cellsOf [] b1 0 (stpC s (.slice ad s.bases.length c))) b2 0 (bldC b (.slice yad b.ys.length yc))) b7 0 (stpC s (.slice ad s.bases.length c)), p.1.block ≠ g13 := fun p hp => by have := hoffL p hp; omega
        have hw13 : w.heap.size ≤ g13 := Nat.le_trans hk0.base (by omega)
        rintro _ _ w6 ⟨h6, u1, u2, ov, i, rfl, hi, ho, hh⟩
        have hk := hk0.fr h6 hoff13 hgne hw13
        by_cases hin : i = (expsM l).length
        · rw [List.take_of_length_le (by omega)] at ho
          have hints := ho.ints hrng (by omega)
          obtain ⟨g', cap, cur, rfl, hlt, hB, _, _, _, hcell⟩ := owns_cells ho (by omega)
          have c0 : w6.cell? ⟨g13, 0, none⟩ = some (.int .i64 dare) := by rw [cell_of_block hh]; rfl
          have c1 : w6.cell? ⟨g13, 1, none⟩ = some (.slice (some ⟨g', 0, none⟩) al.length cap) := by rw [cell_of_block hh]; rfl
          repeat (any_goals (first
          | (with_reducible ((refine idCond ?_); refine yO ?_))
          | ((with_reducible refine idO ?_); (with_reducible refine oM_gen fun Kv hK=>?_); simp [go_sem, c0, c1]; refine hK _ _ ?_; clear hK; clear Kv)))
          refine store_spd ⟨dare, al⟩ _ _ _ hk (fun W3 hk hc hgr => ⟨_, by simp [go_sem, hc], k2 _ _ _ ey hk.below ⟨hints.row.keep hgr.size (fun i hi hlt => hgr.block i hlt ?_), hrng, by show al.length ≤ _; omega⟩⟩)
          cases hi
          intro e
          have e2 : g' = g := Option.some.inj e
          omega
        · have hev := Ints.fr he h6 hing
          have hed := FrG.below hk0.below h6 hw13
          obtain ⟨b8, o8, rfl, hb8', ca, ra, _⟩ := hev.at (i := i) (by omega)
          obtain ⟨b9, o9, rfl, hb9', cb, rb, _⟩ := hys.at (i := i) (by omega)
          have c1 : ∀ w', Below w6.heap.size w6 w' → w'.heap[g13]? = some (.cells #[.int .i64 dare, ov] 47 (0, 0)) := fun w' hw => by rw [hw.block g13 (Array.getElem?_eq_some_iff.1 hh).1]; exact hh
          repeat (any_goals (first
          | (with_reducible ((refine idCond ?_); refine yN ?_))
          | ((with_reducible refine idO ?_); (with_reducible refine oM_gen fun Kv hK=>?_); simp [go_sem, ca _ (Below.refl _ _)]; (first|refine hK _ _ ?_|refine And.intro (by omega) (hK _ _ ?_)); clear hK; clear Kv)))
          refine ⟨UsC (fun w' => KnM w _ g 2 w' ∧ Below w.heap.size w w' ∧ w'.cell? ⟨g13, 1, none⟩ = some ov), fun _ => ⟨hk.drew, hk.drew.below, by rw [cell_of_block (c1 _ .drawn)]; rfl⟩, ?_⟩
          have hk := hk.drew
          have ho := ho.keep (Below.drawn (w := w6))
          have h7 : Below w6.heap.size w6 { w6 with drawn := w6.drawn + 1 } := .drawn
          have hfr := FrG.next h6 h7
          have hh1 := c1 _ h7
          repeat (any_goals (first
          | ((with_reducible refine mk2 b.s _ hb.s ra ?_); intro v10 w10 h10 hi10)
          | (with_reducible refine pureH_in ?_)
          | ((with_reducible refine idOH ?_); (with_reducible refine oH_of ⟨_, rfl⟩ (fun W0 hW0 => by (refine oM_gen (fun Kv hK => ?_)); simp [go_sem, (usGet hW0 (by omega)).1.cells, (usGet hW0 (by omega)).2.2, cb _ (usGet hW0 (by omega)).2.1]; (first | exact hK _ _ ⟨rfl, rfl⟩ | exact ⟨by omega, hK _ _ ⟨rfl, rfl⟩⟩)) ?_))))
          have hk := hk.next h10
          have hh1 : w10.heap[g13]? = _ := (h10.block g13 (Array.getElem?_eq_some_iff.1 hh1).1).trans hh1
          have ho := ho.keep h10
          have hfr := hfr.next h10
          refine ⟨fun _ => ⟨hk, hk.below, by rw [cell_of_block hh1]; rfl⟩, mul_ok s _ (hs.next hk.below) hi10 (fun w11 h11 => ?_)⟩
          have hk := hk.next h11
          have hh1 : w11.heap[g13]? = _ := (h11.block g13 (Array.getElem?_eq_some_iff.1 hh1).1).trans hh1
          have ho := ho.keep h11
          have hfr := hfr.next h11
          refine ⟨fun _ => ⟨hk, hk.below, by rw [cell_of_block hh1]; rfl⟩, plus_ok s _ _ (hs.next hk.below) (fun w12 h12 => ?_)⟩
          have hk := hk.next h12
          have hh1 : w12.heap[g13]? = _ := (h12.block g13 (Array.getElem?_eq_some_iff.1 hh1).1).trans hh1
          have ho := ho.keep h12
          have hfr := hfr.next h12
          refine ⟨fun _ => ⟨hk, hk.below, by rw [cell_of_block hh1]; rfl⟩, mk1 _ (addM_I64 _ _ _) (fun v13 w13 h13 hi13 => ?_)⟩
          have hk := hk.next h13
          have hh1 : w13.heap[g13]? = _ := (h13.block g13 (Array.getElem?_eq_some_iff.1 hh1).1).trans hh1
          have ho := ho.keep h13
          have hfr := hfr.next h13
          refine ⟨fun _ => ⟨hk, hk.below, by rw [cell_of_block hh1]; rfl⟩, append1 ho hfr.size hi13 (by simp; omega) (fun v14 w14 ho h14 => ?_)⟩
          have hg5 : g13 < w5.heap.size := by omega
          have hh1 : w14.heap[g13]? = _ := (h14.block g13 hg5).trans hh1
          have hfr : FrG g13 w5 w14 := hfr.trans (S' := fun i => w5.heap.size ≤ i) ⟨h14.os, h14.tape, h14.output, h14.size, fun i hi hn => h14.block i (by omega)⟩ (fun i h => .inr h)
          refine ⟨fun h => absurd h (by omega), ?_⟩
          have hli : ((al.take i) ++ [plusQ s b.ys[i] (mulQ s dare [b.s, (expsM l)[i]])]) = al.take (i + 1) := by
            rw [List.take_add_one, hat i (by omega) (by omega)]
            rfl
          rw [hli] at ho
          obtain ⟨oad, oc, hov⟩ := owns_len ho
          subst hov
          repeat (any_goals ((with_reducible refine idO ?_); (with_reducible refine oM_gen fun Kv hK=>?_); simp [go_sem]; refine hK _ _ ?_; clear hK; clear Kv))
          refine ⟨fun h => absurd h (by omega), store_second hh1 (fun w15 hgr hh2 => ⟨fun h => absurd h (by omega), ?_⟩)⟩
          have hfr : FrG g13 w5 w15 := hfr.by hgr (fun i e => .inl (Option.some.inj e).symm)
          have ho : OwnI w15 w5.heap.size _ _ := owns_keep ho (fun j hj => hgr.block j (owns_own ho hj).1 (fun e => by have := (owns_own ho hj).2.1; have := Option.some.inj e; omega))
          repeat (any_goals ((with_reducible refine idO ?_); (with_reducible refine oM_gen fun Kv hK=>?_); simp [go_sem]; (try simp (disch := omega) only [wrapI64, wrapU8, wrapU32, wrapU64]); refine hK _ _ ?_; clear hK; clear Kv))
          refine ⟨⟨hfr, _, _, _, i + 1, rfl, by omega, ho, hh2⟩, ?_⟩
          simp only [vsMu_eq]; omega
end
end Go.Proofs
set_option linter.unusedVariables false
set_option maxRecDepth 100000
namespace Go.Proofs
open Go.Sh
def sh_46 (a0 : Value) (K : Value → World → Prop) (w : World) : Prop :=
 oM Tryz.prog (.box 43 (.tmp 0)) 0 [a0] (fun v1_1 w =>
 oM Tryz.prog (.fieldAddr 43 (.tmp 0) 0) 0 [v1_1] (fun v3_2 w =>
 oM Tryz.prog (.load 3 (.tmp 0)) 3 [v3_2] (fun v4_3 w =>
 oM Tryz.prog (.fieldAddr 43 (.tmp 0) 1) 0 [v1_1] (fun v5_4 w =>
 oM Tryz.prog (.load 3 (.tmp 0)) 3 [v5_4] (fun v6_5 w =>
 oM Tryz.prog (.fieldAddr 43 (.tmp 0) 2) 0 [v1_1] (fun v7_6 w =>
 oM Tryz.prog (.load 3 (.tmp 0)) 3 [v7_6] (fun v8_7 w =>
 oM Tryz.prog (.fieldAddr 43 (.tmp 0) 3) 0 [v1_1] (fun v9_8 w =>
 oM Tryz.prog (.load 3 (.tmp 0)) 3 [v9_8] (fun v10_9 w =>
 oM Tryz.prog (.fieldAddr 43 (.tmp 0) 4) 0 [v1_1] (fun v11_10 w =>
 oM Tryz.prog (.load 3 (.tmp 0)) 3 [v11_10] (fun v12_11 w =>
 oM Tryz.prog (.fieldAddr 43 (.tmp 0) 5) 0 [v1_1] (fun v13_12 w =>
 oM Tryz.prog (.load 3 (.tmp 0)) 3 [v13_12] (fun v14_13 w =>
 oM Tryz.prog (.buildSlice 22 6 #[(0, (.tmp 0)), (1, (.tmp 1)), (2, (.tmp 2)), (3, (.tmp 3)), (4, (.tmp 4)), (5, (.tmp 5))]) 22 [v4_3, v6_5, v8_7, v10_9, v12_11, v14_13] (fun v15_14 w =>
 callM Tryz.prog 119 #[v15_14] (fun v16_15 w =>
 K v16_15 w) w) w) w) w) w) w) w) w) w) w) w) w) w) w) w
theorem sh_46_eq (a0 : Value) (K : Value → World → Prop) (w : World) : sh_46 a0 K w = code Tryz.prog (fun _ => 2) 17 (Tryz.f46.body.getD .skip) (slotsAt [a0]) (retK Tryz.prog [.tmp 2] K) w := by kernel_rfl
theorem sh_46_ok {a0 : Value} {K : Value → World → Prop} {w : World} (h : sh_46 a0 K w) : callM Tryz.prog 46 #[a0] K w :=
  calls_of_code (fun _ => 2) (fn := Tryz.f46) (rs := [.tmp 2]) Tryz.func46 rfl rfl (by kernel_rfl) (Nat.le_of_ble_eq_true rfl) ((sh_46_eq a0 K w).mp h)
end Go.Proofs
set_option linter.unusedVariables false
set_option maxRecDepth 100000
namespace Go.Proofs
open Go.Sh
def sh_116 (a0 : Value) (K : Value → World → Prop) (w : World) : Prop :=
 oM Tryz.prog (.build 180 #[(0, (.tmp 0))]) 180 [a0] (fun v4_1 w =>
 oM Tryz.prog (.box 180 (.tmp 0)) 150 [v4_1] (fun v5_2 w =>
 K v5_2 w) w) w
theorem sh_116_eq (a0 : Value) (K : Value → World → Prop) (w : World) : sh_116 a0 K w = code Tryz.prog (fun _ => 0) 6 (Tryz.f116.body.getD .skip) (slotsAt [a0]) (retK Tryz.prog [.tmp 2] K) w := by kernel_rfl
theorem sh_116_ok {a0 : Value} {K : Value → World → Prop} {w : World} (h : sh_116 a0 K w) : callM Tryz.prog 116 #[a0] K w :=
  calls_of_code (fun _ => 0) (fn := Tryz.f116) (rs := [.tmp 2]) Tryz.func116 rfl rfl (by kernel_rfl) (Nat.le_of_ble_eq_true rfl) ((sh_116_eq a0 K w).mp h)
def sh_119 (a0 : Value) (K : Value → World → Prop) (w : World) : Prop :=
 callM Tryz.prog 163 #[a0, (.func (.func 164) #[] #[])] (fun v4_1 w =>
 K v4_1 w) w
theorem sh_119_eq (a0 : Value) (K : Value → World → Prop) (w : World) : sh_119 a0 K w = code Tryz.prog (fun _ => 0) 5 (Tryz.f119.body.getD .skip) (slotsAt [a0]) (retK Tryz.prog [.tmp 2] K) w := by kernel_rfl
theorem sh_119_ok {a0 : Value} {K : Value → World → Prop} {w : World} (h : sh_119 a0 K w) : callM Tryz.prog 119 #[a0] K w :=
  calls_of_code (fun _ => 0) (fn := Tryz.f119) (rs := [.tmp 2]) Tryz.func119 rfl rfl (by kernel_rfl) (Nat.le_of_ble_eq_true rfl) ((sh_119_eq a0 K w).mp h)
def sh_163 (a0 : Value) (a1 : Value) (K : Value → World → Prop) (w : World) : Prop :=
 oM Tryz.prog (.alloc 199) 0 [] (fun v5_1 w =>
 oM Tryz.prog (.call (Go.Call.mk (.builtin .len) #[(.tmp 0)] #[22])) 3 [a0] (fun v9_2 w =>
 callM Tryz.prog 172 #[v9_2] (fun v10_3 w =>
 oM Tryz.prog (.binOp .add 9 (.tmp 0) (.tmp 1) 9) 9 [v10_3, (.string ⟨#[91]⟩)] (fun v11_4 w =>
 callM Tryz.prog 191 #[v5_1, v11_4] (fun v12_5 w =>
 oM Tryz.prog (.call (Go.Call.mk (.builtin .len) #[(.tmp 0)] #[22])) 3 [a0] (fun v14_6 w =>
 loopM [undef, (.int .i64 0)] w (fun J_7 m_8 l_9 u_l_9 w0_l_9 => (fun w => (
 oM Tryz.prog (.binOp .lss 3 (.tmp 0) (.tmp 1) 3) 0 [(l_9.getD 1 undef), v14_6] (fun v16_10 w =>
 condM v16_10
 (oM Tryz.prog (.indexAddr 22 (.tmp 0) (.tmp 1)) 0 [a0, (l_9.getD 1 undef)] (fun v17_11 w =>
 oM Tryz.prog (.load 3 (.tmp 0)) 3 [v17_11] (fun v18_12 w =>
 oM Tryz.prog (.call (Go.Call.mk (.value (.tmp 0)) #[(.tmp 1)] #[3])) 9 [a1, v18_12] (fun v21_13 w =>
 callM Tryz.prog 191 #[v5_1, v21_13] (fun v22_14 w =>
 oM Tryz.prog (.binOp .add 3 (.tmp 0) (.tmp 1) 3) 3 [(l_9.getD 1 undef), (.int .i64 1)] (fun v23_15 w =>
 J_7 [v18_12, v23_15] w ∧ m_8 [v18_12, v23_15] w < m_8 l_9 w0_l_9) w) w) w) w) w)
 (callM Tryz.prog 192 #[v5_1] (fun v24_16 w =>
 oM Tryz.prog (.binOp .add 9 (.tmp 0) (.tmp 1) 9) 9 [v24_16, (.string ⟨#[93]⟩)] (fun v25_17 w =>
 K v25_17 w) w) w)) w)) w0_l_9)) w) w) w) w) w) w
theorem sh_163_eq (a0 : Value) (a1 : Value) (K : Value → World → Prop) (w : World) : sh_163 a0 a1 K w = code Tryz.prog (fun _ => 0) 26 (Tryz.f163.body.getD .skip) (slotsAt [a0, a1]) (retK Tryz.prog [.tmp 4] K) w := by kernel_rfl
theorem sh_163_ok {a0 a1 : Value} {K : Value → World → Prop} {w : World} (h : sh_163 a0 a1 K w) : callM Tryz.prog 163 #[a0, a1] K w :=
  calls_of_code (fun _ => 0) (fn := Tryz.f163) (rs := [.tmp 4]) Tryz.func163 rfl rfl (by kernel_rfl) (Nat.le_of_ble_eq_true rfl) ((sh_163_eq a0 a1 K w).mp h)
def sh_164 (a0 : Value) (K : Value → World → Prop) (w : World) : Prop :=
 callM Tryz.prog 172 #[a0] (fun v4_1 w =>
 oM Tryz.prog (.binOp .add 9 (.tmp 0) (.tmp 1) 9) 9 [v4_1, (.string ⟨#[59]⟩)] (fun v5_2 w =>
 K v5_2 w) w) w
theorem sh_164_eq (a0 : Value) (K : Value → World → Prop) (w : World) : sh_164 a0 K w = code Tryz.prog (fun _ => 0) 6 (Tryz.f164.body.getD .skip) (slotsAt [a0]) (retK Tryz.prog [.tmp 2] K) w := by kernel_rfl
theorem sh_164_ok {a0 : Value} {K : Value → World → Prop} {w : World} (h : sh_164 a0 K w) : callM Tryz.prog 164 #[a0] K w :=
  calls_of_code (fun _ => 0) (fn := Tryz.f164) (rs := [.tmp 2]) Tryz.func164 rfl rfl (by kernel_rfl) (Nat.le_of_ble_eq_true rfl) ((sh_164_eq a0 K w).mp h)
def sh_191 (a0 : Value) (a1 : Value) (K : Value → World → Prop) (w : World) : Prop :=
 callM Tryz.prog 213 #[a0] (fun v7_1 w =>
 oM Tryz.prog (.nilCheck (.tmp 0)) 0 [a0] (fun v10_2 w =>
 oM Tryz.prog (.fieldAddr 199 (.tmp 0) 1) 0 [v10_2] (fun v11_3 w =>
 oM Tryz.prog (.load 189 (.tmp 0)) 189 [v11_3] (fun v12_4 w =>
 oM Tryz.prog (.call (Go.Call.mk (.builtin .append) #[(.tmp 0), (.tmp 1)] #[189, 9])) 189 [v12_4, a1] (fun v14_5 w =>
 oM Tryz.prog (.nilCheck (.tmp 0)) 0 [a0] (fun v15_6 w =>
 oM Tryz.prog (.fieldAddr 199 (.tmp 0) 1) 0 [v15_6] (fun v16_7 w =>
 oM Tryz.prog (.store 189 (.tmp 0) (.tmp 1)) 0 [v16_7, v14_5] (fun _ w =>
 oM Tryz.prog (.call (Go.Call.mk (.builtin .len) #[(.tmp 0)] #[9])) 3 [a1] (fun v18_8 w =>
 K (.tuple #[v18_8, .nilIface]) w) w) w) w) w) w) w) w) w) w
theorem sh_191_eq (a0 : Value) (a1 : Value) (K : Value → World → Prop) (w : World) : sh_191 a0 a1 K w = code Tryz.prog (fun _ => 0) 19 (Tryz.f191.body.getD .skip) (slotsAt [a0, a1]) (retK Tryz.prog [.tmp 4, .tmp 5] K) w := by kernel_rfl
theorem sh_191_ok {a0 a1 : Value} {K : Value → World → Prop} {w : World} (h : sh_191 a0 a1 K w) : callM Tryz.prog 191 #[a0, a1] K w :=
  calls_of_code (fun _ => 0) (fn := Tryz.f191) (rs := [.tmp 4, .tmp 5]) Tryz.func191 rfl rfl (by kernel_rfl) (Nat.le_of_ble_eq_true rfl) ((sh_191_eq a0 a1 K w).mp h)
def sh_213 (a0 : Value) (K : Value → World → Prop) (w : World) : Prop :=
 oM Tryz.prog (.nilCheck (.tmp 0)) 0 [a0] (fun v3_1 w =>
 oM Tryz.prog (.fieldAddr 199 (.tmp 0) 0) 0 [v3_1] (fun v4_2 w =>
 oM Tryz.prog (.load 197 (.tmp 0)) 197 [v4_2] (fun v5_3 w =>
 oM Tryz.prog (.binOp .eql 197 (.tmp 0) (.const (.pointer none)) 197) 4 [v5_3] (fun v6_4 w =>
 condM v6_4
 (oM Tryz.prog (.convert 197 232 (.tmp 0)) 232 [a0] (fun v9_5 w =>
 extM Tryz.prog 229 #[v9_5] (fun v10_6 w =>
 oM Tryz.prog (.convert 232 197 (.tmp 0)) 197 [v10_6] (fun v11_7 w =>
 oM Tryz.prog (.nilCheck (.tmp 0)) 0 [a0] (fun v12_8 w =>
 oM Tryz.prog (.fieldAddr 199 (.tmp 0) 0) 0 [v12_8] (fun v13_9 w =>
 oM Tryz.prog (.store 197 (.tmp 0) (.tmp 1)) 0 [v13_9, v11_7] (fun _ w =>
 K (.tuple #[]) w) w) w) w) w) w) w)
 (oM Tryz.prog (.nilCheck (.tmp 0)) 0 [a0] (fun v15_10 w =>
 oM Tryz.prog (.fieldAddr 199 (.tmp 0) 0) 0 [v15_10] (fun v16_11 w =>
 oM Tryz.prog (.load 197 (.tmp 0)) 197 [v16_11] (fun v17_12 w =>
 oM Tryz.prog (.binOp .neq 197 (.tmp 0) (.tmp 1) 197) 4 [v17_12, a0] (fun v19_13 w =>
 condM v19_13
 (False)
 (K (.tuple #[]) w)) w) w) w) w)) w) w) w) w
theorem sh_213_eq (a0 : Value) (K : Value → World → Prop) (w : World) : sh_213 a0 K w = code Tryz.prog (fun _ => 0) 20 (Tryz.f213.body.getD .skip) (slotsAt [a0]) (retK Tryz.prog [] K) w := by kernel_rfl
theorem sh_213_ok {a0 : Value} {K : Value → World → Prop} {w : World} (h : sh_213 a0 K w) : callM Tryz.prog 213 #[a0] K w :=
  calls_of_code (fun _ => 0) (fn := Tryz.f213) (rs := []) Tryz.func213 rfl rfl (by kernel_rfl) (Nat.le_of_ble_eq_true rfl) ((sh_213_eq a0 K w).mp h)
end Go.Proofs
namespace Go.Proofs
abbrev tabName : String := (YtpimhdkjpccihaaGreatDoor.Rows.ticketCodesRow.laid.map (fun x => x.1)).getD 2 default
open Go.Shelf
def Tryz.lays169_ren : Go.Shelf.Ren := ⟨fun | 169 => 192 | n => n, fun | 70 => 197 | 9 => 9 | 0 => 0 | 72 => 199 | 37 => 189 | 127 => 222 | 3 => 3 | 5 => 5 | n => n, fun | n => n⟩
theorem Tryz.lays169 : Go.Proofs.Lays.n169 Tryz.prog Tryz.lays169_ren := {
  mixed := by kernel_rfl
  f169 := Tryz.func192.trans (congrArg some (by kernel_rfl))
  t0 := Tryz.underlying0
  a0 := Tryz.isAgg0
  z0 := Tryz.sizeOf0
  v0 := Tryz.zeroValue0
  t3 := Tryz.underlying3
  a3 := Tryz.isAgg3
  z3 := Tryz.sizeOf3
  v3 := Tryz.zeroValue3
  t9 := Tryz.underlying9
  a9 := Tryz.isAgg9
  z9 := Tryz.sizeOf9
  v9 := Tryz.zeroValue9
  t37 := Tryz.underlying189
  a37 := Tryz.isAgg189
  z37 := Tryz.sizeOf189
  v37 := Tryz.zeroValue189
  t70 := Tryz.underlying197
  a70 := Tryz.isAgg197
  z70 := Tryz.sizeOf197
  v70 := Tryz.zeroValue197
  t72 := Tryz.underlying199
  a72 := Tryz.isAgg199
  z72 := Tryz.sizeOf199
  v72 := Tryz.zeroValue199
  t127 := Tryz.underlying222
  a127 := Tryz.isAgg222
  z127 := Tryz.sizeOf222
  v127 := Tryz.zeroValue222 }
theorem Tryz.Builder_Extra_169 : Builder.Extra Tryz.prog Tryz.lays169_ren := {
  sizeBuilder := by kernel_rfl
  liesBuilder := by kernel_rfl
  t5 := Tryz.underlying5
  a5 := Tryz.isAgg5
  z5 := Tryz.sizeOf5
  v5 := Tryz.zeroValue5
  infoByte := by kernel_rfl
  cellsByte := by kernel_rfl
  sizeByte := by kernel_rfl
  neB5 := by decide }
open Go.RowKit in
theorem Tryz.Builder_String_any (B b : Nat) (l : List UInt8) (w : World) (h : Lib.IsBuilder 199 5 B b (Lib.byteCells l) w) (hBw : B ≤ w.heap.size) :
    Calls Tryz.prog 192 #[.pointer (some ⟨b, 0, none⟩)] w fun e w' => e = .returned (.string ⟨l.toArray⟩) ∧ Below B w w' := Any.Builder_String_any Tryz.lays169 Tryz.Builder_Extra_169 B b l w h hBw
def Tryz.laysM171_ren : Go.Shelf.Ren := ⟨fun | 171 => 172 | 243 => 197 | 246 => 218 | 283 => 230 | 284 => 231 | 285 => 232 | 286 => 233 | 129 => 224 | 317 => 241 | 318 => 242 | 319 => 243 | 320 => 244 | 337 => 248 | 338 => 222 | n => n, fun | 3 => 3 | 9 => 9 | 2 => 2 | 4 => 4 | 171 => 234 | 0 => 0 | 53 => 123 | 37 => 189 | 5 => 5 | 173 => 236 | 212 => 247 | 51 => 205 | 20 => 20 | 213 => 248 | 46 => 176 | 232 => 261 | 233 => 238 | n => n, fun | 17 => 3 | 18 => 7 | 19 => 2 | n => n⟩
theorem Tryz.laysM171 : Go.Proofs.LaysM.n171 Tryz.prog Tryz.laysM171_ren := {
  mixed := by kernel_rfl
  f129 := Tryz.func224.trans (congrArg some (by kernel_rfl))
  f171 := Tryz.func172.trans (congrArg some (by kernel_rfl))
  f243 := Tryz.func197.trans (congrArg some (by kernel_rfl))
  f246 := Tryz.func218.trans (congrArg some (by kernel_rfl))
  f283 := Tryz.func230.trans (congrArg some (by kernel_rfl))
  f284 := Tryz.func231.trans (congrArg some (by kernel_rfl))
  f285 := Tryz.func232.trans (congrArg some (by kernel_rfl))
  f286 := Tryz.func233.trans (congrArg some (by kernel_rfl))
  f317 := Tryz.func241.trans (congrArg some (by kernel_rfl))
  f318 := Tryz.func242.trans (congrArg some (by kernel_rfl))
  f319 := Tryz.func243.trans (congrArg some (by kernel_rfl))
  f320 := Tryz.func244.trans (congrArg some (by kernel_rfl))
  f337 := Tryz.func248.trans (congrArg some (by kernel_rfl))
  f338 := Tryz.func222.trans (congrArg some (by kernel_rfl))
  t0 := Tryz.underlying0
  a0 := Tryz.isAgg0
  z0 := Tryz.sizeOf0
  v0 := Tryz.zeroValue0
  t2 := Tryz.underlying2
  a2 := Tryz.isAgg2
  z2 := Tryz.sizeOf2
  v2 := Tryz.zeroValue2
  t3 := Tryz.underlying3
  a3 := Tryz.isAgg3
  z3 := Tryz.sizeOf3
  v3 := Tryz.zeroValue3
  t4 := Tryz.underlying4
  a4 := Tryz.isAgg4
  z4 := Tryz.sizeOf4
  v4 := Tryz.zeroValue4
  t5 := Tryz.underlying5
  a5 := Tryz.isAgg5
  z5 := Tryz.sizeOf5
  v5 := Tryz.zeroValue5
  t9 := Tryz.underlying9
  a9 := Tryz.isAgg9
  z9 := Tryz.sizeOf9
  v9 := Tryz.zeroValue9
  t20 := Tryz.underlying20
  a20 := Tryz.isAgg20
  z20 := Tryz.sizeOf20
  v20 := Tryz.zeroValue20
  t37 := Tryz.underlying189
  a37 := Tryz.isAgg189
  z37 := Tryz.sizeOf189
  v37 := Tryz.zeroValue189
  t46 := Tryz.underlying176
  a46 := Tryz.isAgg176
  z46 := Tryz.sizeOf176
  v46 := Tryz.zeroValue176
  t51 := Tryz.underlying205
  a51 := Tryz.isAgg205
  z51 := Tryz.sizeOf205
  v51 := Tryz.zeroValue205
  t53 := Tryz.underlying123
  a53 := Tryz.isAgg123
  z53 := Tryz.sizeOf123
  v53 := Tryz.zeroValue123
  t171 := Tryz.underlying234
  a171 := Tryz.isAgg234
  z171 := Tryz.sizeOf234
  v171 := Tryz.zeroValue234
  t173 := Tryz.underlying236
  a173 := Tryz.isAgg236
  z173 := Tryz.sizeOf236
  v173 := Tryz.zeroValue236
  t212 := Tryz.underlying247
  a212 := Tryz.isAgg247
  z212 := Tryz.sizeOf247
  v212 := Tryz.zeroValue247
  t213 := Tryz.underlying248
  a213 := Tryz.isAgg248
  z213 := Tryz.sizeOf248
  t232 := Tryz.underlying261
  a232 := Tryz.isAgg261
  z232 := Tryz.sizeOf261
  v232 := Tryz.zeroValue261
  t233 := Tryz.underlying238
  a233 := Tryz.isAgg238
  z233 := Tryz.sizeOf238
  v233 := Tryz.zeroValue238
  g17 := by kernel_rfl
  g18 := by kernel_rfl
  g19 := by kernel_rfl
  i0 := by kernel_rfl
  i2 := by kernel_rfl
  i3 := by kernel_rfl
  i4 := by kernel_rfl
  i5 := by kernel_rfl
  i9 := by kernel_rfl
  i20 := by kernel_rfl
  i37 := by kernel_rfl
  i46 := by kernel_rfl
  i51 := by kernel_rfl
  i53 := by kernel_rfl
  i171 := by kernel_rfl
  i173 := by kernel_rfl
  i212 := by kernel_rfl
  i232 := by kernel_rfl
  i233 := by kernel_rfl
  m17 := by kernel_rfl
  m18 := by kernel_rfl
  m19 := by kernel_rfl }
open Go.RowKit Go.Sort Go.Lib in
theorem Tryz.strconv_Itoa (n : Int) (h0 : -9223372036854775808 ≤ n) (h1 : n ≤ 9223372036854775807) (w : World) (htab : Lib.TabIs Tryz.prog w tabName .u64 Lib.pow10Tab) :
    Calls Tryz.prog 172 #[.int .i64 n] w fun e w' => e = .returned (.string ⟨(Lib.itoa n).toArray⟩) ∧ ∃ k os, w' = grow (w.drewN k) os := Any.strconv_Itoa Tryz.laysM171 n h0 h1 w htab
end Go.Proofs
namespace CodeSpec
open Go.Lib
abbrev Bytes := List UInt8
def InR (n : Int) : Prop := -9223372036854775808 ≤ n ∧ n ≤ 9223372036854775807
def encInt (n : Int) : Bytes := itoa n ++ [59]
def encList (l : List Bytes) : Bytes := itoa l.length ++ 91 :: (l.flatten ++ [93])
def encNums (l : List Int) : Bytes := encList (l.map encInt)
structure Rd where
  rest : Bytes
  bad : Bool
theorem decDigits_len (u : Nat) (k : Nat) (hk : 1 ≤ k) (h : u < 10 ^ k) : (decDigits u).length ≤ k := by
  induction k generalizing u with
  | zero => omega
  | succ k ih =>
    rw [decDigits]
    split
    · simp
    · rename_i h10
      have hk1 : 1 ≤ k := by
        rcases Nat.eq_zero_or_pos k with rfl | h0
        · simp at h; omega
        · exact h0
      have := ih (u / 10) hk1 (by rw [Nat.pow_succ] at h; omega)
      simp only [List.length_append, List.length_singleton]
      omega
theorem itoa_len (n : Int) (h : InR n) : (itoa n).length ≤ 20 := by
  obtain ⟨h1, h2⟩ := h
  unfold itoa
  split
  · have := decDigits_len n.natAbs 19 (by omega) (by omega)
    simp; omega
  · have := decDigits_len n.toNat 19 (by omega) (by omega)
    omega
def Rd.ok (r : Rd) : Prop := r.bad = true → r.rest = []
end CodeSpec
namespace Go.Proofs.Cd
open Go Go.Sh Go.RowKit Go.Lib CodeSpec
set_option linter.unusedSimpArgs false
set_option maxRecDepth 10000
theorem ba_extract (l : List UInt8) (i j : Nat) : (⟨l.toArray⟩ : ByteArray).extract i j = ⟨((l.take j).drop i).toArray⟩ := by
  apply ByteArray.ext
  rw [← Array.toList_inj, ByteArray.data_extract, Array.toList_extract, List.extract_eq_take_drop]
  simp [List.drop_take]
theorem ba_inj (a b : List UInt8) : ((⟨a.toArray⟩ : ByteArray) = ⟨b.toArray⟩) = (a = b) := by
  simp
theorem ba_byteAt (l : List UInt8) (k : Nat) : byteAt ⟨l.toArray⟩ k = l.getD k 0 := by
  simp [byteAt]
attribute [go_sem] ba_size ba_append ba_extract ba_byteAt ba_inj
theorem K_eq {K : Value → World → Prop} {w : World} {a b : Value} (h : K a w) (e : b = a) : K b w := by rw [e]; exact h
theorem call_of_calls {f : FuncId} {args : Array Value} {w : World} {v : Value} {Q : World → Prop} {K : Value → World → Prop} (h : Calls Tryz.prog f args w fun e w' => e = .returned v ∧ Q w') (k : ∀ w', Q w' → K v w') : callM Tryz.prog f args K w :=
  Calls.mono h (fun _ w' ⟨he, hq⟩ => ⟨v, he, k w' hq⟩)
structure Laid (w : World) : Prop where
  tab : TabIs Tryz.prog w tabName .u64 pow10Tab
  size : 8 ≤ w.heap.size
structure LaidE (w : World) : Prop extends Laid w where
  syn : ∃ te pe, w.cell? ⟨5, 0, none⟩ = some (.iface te pe)
  ran : ∃ te pe, w.cell? ⟨6, 0, none⟩ = some (.iface te pe)
theorem gTab : Tryz.prog.globalNamed tabName = some 3 := by kernel_rfl
theorem Laid.keep {w w' : World} (h : Laid w) (hb : ∀ k, k < 8 → w'.heap[k]? = w.heap[k]?) (hs : w.heap.size ≤ w'.heap.size) : Laid w' := by
  refine ⟨?_, Nat.le_trans h.size hs⟩
  have h1 := h.tab
  unfold TabIs World.var? at h1 ⊢
  rw [gTab] at h1 ⊢
  simp only [Option.bind_some] at h1 ⊢
  rw [hb _ (by omega)]
  exact h1
theorem Laid.below {w w' : World} (h : Laid w) {B : Nat} (hb : Below B w w') (hB : 8 ≤ B) : Laid w' := h.keep (fun k hk => hb.block k (by omega)) hb.size
theorem Laid.grown {w w' : World} (h : Laid w) {b : Nat} (hg : w.grownBy w' (some b)) (hb : 8 ≤ b) : Laid w' := h.keep (fun k hk => hg.block k (by have := h.size; omega) (by simp; omega)) hg.size
theorem LaidE.keep {w w' : World} (h : LaidE w) (hb : ∀ k, k < 8 → w'.heap[k]? = w.heap[k]?) (hs : w.heap.size ≤ w'.heap.size) : LaidE w' := by
  have hc : ∀ k, k < 8 → w'.cell? ⟨k, 0, none⟩ = w.cell? ⟨k, 0, none⟩ := fun k hk => World.cell?_of_block (w := w) (hb k hk)
  refine ⟨h.toLaid.keep hb hs, ?_, ?_⟩
  · rw [hc _ (by omega)]; exact h.syn
  · rw [hc _ (by omega)]; exact h.ran
theorem LaidE.below {w w' : World} (h : LaidE w) {B : Nat} (hb : Below B w w') (hB : 8 ≤ B) : LaidE w' := h.keep (fun k hk => hb.block k (by omega)) hb.size
theorem LaidE.grown {w w' : World} (h : LaidE w) {b : Nat} (hg : w.grownBy w' (some b)) (hb : 8 ≤ b) : LaidE w' := h.keep (fun k hk => hg.block k (by have := h.toLaid.size; omega) (by simp; omega)) hg.size
theorem grown_of_below {w w' : World} (h : Below w.heap.size w w') (b : Option Nat) : w.grownBy w' b := ⟨h.os, h.tape, h.output, h.size, fun k hk _ => h.block k hk⟩
theorem below_of_grown {B : Nat} {w w' : World} {row : Option Nat} (h : w.grownBy w' row) (hB : B ≤ w.heap.size) (hr : ∀ k, row = some k → B ≤ k) : Below B w w' :=
  (Below.refl B w).grown h hB hr
theorem itoa_ok (n : Int) (hn : InR n) {K : Value → World → Prop} {w : World} (hl : Laid w) (k : ∀ w', Below w.heap.size w w' → K (.string ⟨(itoa n).toArray⟩) w') : callM Tryz.prog 172 #[.int .i64 n] K w := by
  refine call_of_calls (Tryz.strconv_Itoa n hn.1 hn.2 w hl.tab) ?_
  rintro w' ⟨d, os, rfl⟩
  exact k _ (below_grow _ _ (Nat.le_refl _) _ _)
theorem infoB : Tryz.prog.info? 199 = some Tryz.t199 := by kernel_rfl
theorem sizeB : Tryz.t199.size = 2 := by kernel_rfl
theorem liesB (b : Nat) : liesAt Tryz.prog Tryz.prog.depth 199 (2 / Tryz.prog.cellsOf 199) (⟨b, 0, none⟩ : Addr).off 199 1 = true := by kernel_rfl
theorem runNE (x : Value) (w : World) : (callFunc 229 #[x]).run Tryz.prog w = .ok (.value x) w := by kernel_rfl
theorem extNE {x : Value} {K : Value → World → Prop} {w : World} (k : K x w) : extM Tryz.prog 229 #[x] K w := by
  unfold extM opM
  rw [runNE]
  exact k
theorem copyCheck_nil (B b : Nat) (bs : List Value) (w : World) (h : BuilderAt 199 5 B b (.pointer none) bs w) {K : Value → World → Prop}
    (k : K (.tuple #[]) (w.setCell ⟨b, 0, none⟩ (.pointer (some ⟨b, 0, none⟩)))) : callM Tryz.prog 213 #[.pointer (some ⟨b, 0, none⟩)] K w := by
  apply sh_213_ok
  unfold sh_213
  have hc := h.cell0
  have hf := h.frozen0
  have hv1 : (convert 197 232 (.pointer (some ⟨b, 0, none⟩))).run Tryz.prog w = .ok (.pointer (some ⟨b, 0, none⟩)) w :=
    run_to_unsafe (P := Tryz.prog) (w := w) (a := ⟨b, 0, none⟩) Tryz.underlying197 Tryz.underlying232 (t := 199) (j := Tryz.t199) infoB (by rw [sizeB]; omega) h.shape (by show (0 : Nat) < 2; omega)
  have hv2 : (convert 232 197 (.pointer (some ⟨b, 0, none⟩))).run Tryz.prog w = .ok (.pointer (some ⟨b, 0, none⟩)) w :=
    run_from_unsafe (P := Tryz.prog) (w := w) (a := ⟨b, 0, none⟩) Tryz.underlying232 Tryz.underlying197 (u := 199) (j := Tryz.t199) infoB h.shape (liesB b)
  repeat (any_goals (first
  | (with_reducible refine extNE ?_)
  | (with_reducible ((refine idCond ?_); refine yL ?_))
  | ((with_reducible refine idO ?_); (with_reducible refine oM_gen fun Kv hK=>?_); simp [go_sem, oM_eqc, eqGuard, hc, hf, hv1, hv2]; refine hK _ _ ?_; clear hK; clear Kv)))
  exact k
theorem copyCheck_self (B b : Nat) (bs : List Value) (w : World) (h : BuilderAt 199 5 B b (.pointer (some ⟨b, 0, none⟩)) bs w) {K : Value → World → Prop}
    (k : K (.tuple #[]) w) : callM Tryz.prog 213 #[.pointer (some ⟨b, 0, none⟩)] K w := by
  apply sh_213_ok
  unfold sh_213
  have hc := h.cell0
  have hf := h.frozen0
  have hn := run_neq_ptr_same (P := Tryz.prog) (w := w) (tp := 197) (te := 199) (j := Tryz.t199) (a := ⟨b, 0, none⟩) Tryz.underlying197 infoB
  repeat (any_goals (first
  | (with_reducible ((refine idCond ?_); refine yM ?_))
  | ((with_reducible refine idO ?_); (with_reducible refine oM_gen fun Kv hK=>?_); simp [go_sem, oM_eqc, oM_net, eqGuard, hc, hf, hn]; refine hK _ _ ?_; clear hK; clear Kv)))
  exact k
theorem copyCheck_ok (B b : Nat) (bs : List Value) (w : World) (h : IsBuilder 199 5 B b bs w) {K : Value → World → Prop}
    (k : ∀ w', BuilderAt 199 5 B b (.pointer (some ⟨b, 0, none⟩)) bs w' → w.grownBy w' (some b) → w'.heap.size = w.heap.size → K (.tuple #[]) w') : callM Tryz.prog 213 #[.pointer (some ⟨b, 0, none⟩)] K w := by
  rcases h with h | h
  · refine copyCheck_nil B b bs w h (k _ (h.used _) ⟨rfl, rfl, rfl, by simp [World.setCell], fun i _ hi => Below.heap_setCell _ _ _ _ (fun e => hi (by simp [e]))⟩ (by simp [World.setCell]))
  · exact copyCheck_self B b bs w h (k _ h ⟨rfl, rfl, rfl, Nat.le_refl _, fun _ _ _ => rfl⟩ rfl)
theorem ownsRow_slice {w : World} {B : Nat} {e : TypeId} {sz : Nat} {v : Value} {n : Nat} {xs : List Value} (h : w.ownsRow B e sz v n xs) : ∃ a m c, v = .slice a m c := by
  rcases h.2 with ⟨h, _⟩ | ⟨g, cap, cur, h, _⟩
  · exact ⟨_, _, _, h⟩
  · exact ⟨_, _, _, h⟩
theorem builderString_ok (B b : Nat) (l : List UInt8) (w : World) (h : IsBuilder 199 5 B b (Lib.byteCells l) w) (hBw : B ≤ w.heap.size) {K : Value → World → Prop} (k : ∀ w', Below B w w' → K (.string ⟨l.toArray⟩) w') : callM Tryz.prog 192 #[.pointer (some ⟨b, 0, none⟩)] K w :=
  call_of_calls (Tryz.Builder_String_any B b l w h hBw) k
theorem writeString_ok (B b : Nat) (l s : List UInt8) (w : World) (h : IsBuilder 199 5 B b (Lib.byteCells l) w) (hlen : l.length + s.length ≤ 140737488355328) (hBw : B ≤ w.heap.size) {K : Value → World → Prop}
    (k : ∀ w', IsBuilder 199 5 B b (Lib.byteCells (l ++ s)) w' → Below B w w' → K (.tuple #[.int .i64 s.length, .nilIface]) w') : callM Tryz.prog 191 #[.pointer (some ⟨b, 0, none⟩), .string ⟨s.toArray⟩] K w := by
  apply sh_191_ok
  unfold sh_191
  refine copyCheck_ok B b _ w h ?_
  intro w1 h1 hg1 hs1
  obtain ⟨hB, v, hb, hown, hne⟩ := h1
  have hc1 : w1.cell? ⟨b, 1, none⟩ = some v := by simp [World.cell?, hb]
  have hbl : Below B w w1 := below_of_grown hg1 hBw (fun k hk => by cases hk; exact hB)
  have hbl5 : (Lib.byteCells l).length = l.length := by simp [Lib.byteCells]
  repeat (any_goals ((with_reducible refine idO ?_); (with_reducible refine oM_gen fun Kv hK=>?_); simp [go_sem, hc1]; refine hK _ _ ?_; clear hK; clear Kv))
  obtain ⟨v', w2, hrun, ho, hg, _⟩ := run_append_own_string (P := Tryz.prog) w1 B 189 9 189 5 Tryz.t5 Tryz.underlying189 Tryz.underlying9 (by kernel_rfl) (by kernel_rfl) (by kernel_rfl) (by kernel_rfl) v (Lib.byteCells l).length (Lib.byteCells l) hown ⟨s.toArray⟩ (by unfold maxLen; rw [ba_size]; omega) (by rw [ba_size]; omega) (by omega)
  rw [oM_value (S := Builtin.append_ #[189, 9] 189 #[v, .string ⟨s.toArray⟩]) (by simp [xop, execOp, evalL, evE, resolve, invoke, builtin]), hrun, ok_iff]
  have hb2 : w2.heap[b]? = some (.cells #[.pointer (some ⟨b, 0, none⟩), v] 199 (0, 0)) := by
    rw [hg.block b (by have := (Array.getElem?_eq_some_iff.1 hb).1; exact this) (fun e => hne e.symm)]
    exact hb
  have hc2 : w2.cell? ⟨b, 1, none⟩ = some v := by simp [World.cell?, hb2]
  have hf2 : w2.frozen? ⟨b, 1, none⟩ = false := by simp [World.frozen?, hb2]
  have ho' : w2.ownsRow B 5 1 v' (Lib.byteCells (l ++ s)).length (Lib.byteCells (l ++ s)) := by
    have e : Lib.byteCells l ++ strCells ⟨s.toArray⟩ = Lib.byteCells (l ++ s) := by simp [Lib.byteCells, strCells]
    have e2 : (Lib.byteCells l).length + (⟨s.toArray⟩ : ByteArray).size = (Lib.byteCells (l ++ s)).length := by rw [ba_size]; simp [Lib.byteCells]
    rw [e, e2] at ho
    exact ho
  have hput := BuilderAt.put (p := .pointer (some ⟨b, 0, none⟩)) hB hb2 ho' (by decide)
  have hbl2 : Below B w w2 := hbl.trans (below_of_grown hg (by omega) (fun k hk => (hown.lt k hk).1))
  obtain ⟨av, nv, cv, rfl⟩ := ownsRow_slice ho
  repeat (any_goals ((with_reducible refine idO ?_); (with_reducible refine oM_gen fun Kv hK=>?_); simp [go_sem, hc2, hf2]; refine hK _ _ ?_; clear hK; clear Kv))
  exact k _ (.inr hput) (hbl2.setCell hB _)
end Go.Proofs.Cd
namespace Go.Proofs.Cd
open Go Go.Sh Go.RowKit Go.Lib CodeSpec
set_option linter.unusedSimpArgs false
set_option maxRecDepth 10000
def intV (n : Int) : Value := .int .i64 n
def RowOf {α : Type} (mk : α → Value) (w : World) (v : Value) (l : List α) : Prop :=
  ∃ ad c, v = .slice ad l.length c ∧ (l = [] ∨ ∃ b o, ad = some ⟨b, o, none⟩ ∧ b < w.heap.size ∧ ∀ (i : Nat) (h : i < l.length), w.cell? ⟨b, o + i, none⟩ = some (mk l[i]))
theorem RowOf.below {α : Type} {mk : α → Value} {w w' : World} {v : Value} {l : List α} (h : RowOf mk w v l) (hb : Below w.heap.size w w') : RowOf mk w' v l := by
  obtain ⟨ad, c, rfl, h⟩ := h
  refine ⟨ad, c, rfl, h.imp id ?_⟩
  rintro ⟨b, o, rfl, hlt, hc⟩
  exact ⟨b, o, rfl, Nat.lt_of_lt_of_le hlt hb.size, fun i hi => by rw [hb.cell hlt]; exact hc i hi⟩
theorem RowOf.nil {α : Type} (mk : α → Value) (w : World) (ad : Option Addr) (c : Nat) : RowOf mk w (.slice ad 0 c) [] := ⟨ad, c, rfl, .inl rfl⟩
theorem addr_add (b o k : Nat) : (⟨b, o, none⟩ : Addr).add k = ⟨b, o + k, none⟩ := by
  unfold Addr.add
  split
  · rename_i h0; rw [h0]; simp
  · rfl
theorem RowOf.of_owns {α : Type} {mk : α → Value} {w : World} {B : Nat} {e : TypeId} {v : Value} {l : List α} (h : w.ownsRow B e 1 v l.length (l.map mk)) : RowOf mk w v l := by
  rcases h.2 with ⟨rfl, h0⟩ | ⟨g, cap, cur, rfl, hb, hg, hn, hm, hcs, ht⟩
  · obtain rfl : l = [] := List.eq_nil_of_length_eq_zero h0
    exact RowOf.nil _ _ _ _
  · refine ⟨_, cap, rfl, .inr ⟨g, 0, rfl, (Array.getElem?_eq_some_iff.1 hg).1, fun i hi => ?_⟩⟩
    have : (l.map mk)[i]? = some (mk l[i]) := by simp [hi]
    rw [← ht, List.getElem?_take_of_lt (by omega)] at this
    unfold World.cell?
    rw [hg]
    simpa using this
theorem idx22 {b o n c k : Nat} (hk : k < n) (w : World) : (Instr.indexAt 22 (.slice (some ⟨b, o, none⟩) n c) (.int .i64 k)).run Tryz.prog w = .ok (.pointer (some ⟨b, o + k, none⟩)) w := by
  rw [run_indexAt_slice (h := by kernel_rfl), if_pos (by omega)]
  have hs : (sizeOf (Tryz.prog.elem 22)).run Tryz.prog w = .ok 1 w := by kernel_rfl
  rw [hs]
  simp only [Result.andThen, Int.toNat_natCast, addr_add, Nat.mul_one]
theorem encInt_len (n : Int) (h : InR n) : (encInt n).length ≤ 21 := by
  have := itoa_len n h
  simp [encInt]; omega
theorem pInt_ok (n : Int) (hn : InR n) {K : Value → World → Prop} {w : World} (hl : Laid w) (k : ∀ w', Below w.heap.size w w' → K (.string ⟨(encInt n).toArray⟩) w') : callM Tryz.prog 164 #[.int .i64 n] K w := by
  apply sh_164_ok
  unfold sh_164
  refine itoa_ok n hn hl ?_
  intro w1 hb
  have := itoa_len n hn
  repeat (any_goals ((with_reducible refine idO ?_); (with_reducible refine oM_gen fun Kv hK=>?_); simp [go_sem]; refine And.intro (by omega) (hK _ _ ?_); clear hK; clear Kv))
  exact K_eq (k _ hb) (by simp [encInt])
theorem flat_snoc {α : Type} (enc : α → List UInt8) (xs : List α) (k : Nat) (h : k < xs.length) : ((xs.take (k + 1)).map enc).flatten = ((xs.take k).map enc).flatten ++ enc xs[k] := by
  rw [List.take_add_one, List.getElem?_eq_getElem h]
  simp only [Option.toList_some, List.map_append, List.map_cons, List.map_nil, List.flatten_append, List.flatten_cons, List.flatten_nil, List.append_nil]
theorem flat_le {α : Type} (enc : α → List UInt8) (xs : List α) (k : Nat) : ((xs.take k).map enc).flatten.length ≤ (xs.map enc).flatten.length := by
  conv => rhs; rw [← List.take_append_drop k xs]
  rw [List.map_append, List.flatten_append, List.length_append]
  omega
theorem IsBuilder.below {T e : TypeId} {B b : Nat} {bs : List Value} {w w' : World} (h : IsBuilder T e B b bs w) (hb : Below w.heap.size w w') : IsBuilder T e B b bs w' := by
  have key : ∀ p, BuilderAt T e B b p bs w → BuilderAt T e B b p bs w' := by
    rintro p ⟨hB, v, hh, hown, hne⟩
    have hlt := (Array.getElem?_eq_some_iff.1 hh).1
    refine ⟨hB, v, by rw [hb.block _ hlt]; exact hh, ?_, hne⟩
    exact hown.kept (grown_of_below hb none) (by
      rcases hown.2 with ⟨rfl, _⟩ | ⟨g, cap, cur, rfl, _⟩
      · left; rfl
      · right; simp [Value.ownBlock])
  exact h.imp (key _) (key _)
theorem encodedNum_ok (xs : List (Int)) (v : Value) {K : Value → World → Prop} {w : World} (hl : Laid w) (hrow : RowOf intV w v xs) (hx : ∀ x ∈ xs, InR x) (hlen : (encList (xs.map encInt)).length < 2^40)
    (k : ∀ w', Below w.heap.size w w' → K (.string ⟨(encList (xs.map encInt)).toArray⟩) w') : callM Tryz.prog 163 #[v, .func (.func 164) #[] #[]] K w := by
  apply sh_163_ok
  unfold sh_163
  have hsz : (encList (xs.map encInt)).length = (itoa (xs.length : Nat)).length + 1 + ((xs.map encInt).flatten).length + 1 := by simp [encList]; omega
  have hxl : xs.length ≤ (xs.map encInt).flatten.length := by
    rw [List.length_flatten]
    clear hrow hlen hsz k
    induction xs with
    | nil => simp
    | cons x xs ih =>
      have := ih (fun y hy => hx y (List.mem_cons_of_mem _ hy))
      have h1 : 1 ≤ (encInt x).length := by simp [encInt]; try omega
      simp only [List.length_cons, List.map_cons, List.sum_cons]
      omega
  have hin : InR (xs.length : Nat) := ⟨by omega, by omega⟩
  have hil := itoa_len _ hin
  obtain ⟨ad, c, rfl, hcell⟩ := hrow
  have hl0 : Laid (w.alloc (.cells #[.pointer none, .slice none 0 0] 199)) := hl.below ((Below.refl _ _).alloc (Nat.le_refl _) _) hl.size
  repeat (any_goals ((with_reducible refine idO ?_); (with_reducible refine oM_gen fun Kv hK=>?_); simp [go_sem]; refine hK _ _ ?_; clear hK; clear Kv))
  refine itoa_ok _ hin hl0 (fun w1 hb1 => ?_)
  have hb1' : Below w.heap.size w w1 := ((Below.refl _ _).alloc (Nat.le_refl _) _).trans (hb1.mono (by simp))
  have hB1 := IsBuilder.below (fresh_isBuilder 199 5 w) hb1
  have hz1 := hb1'.size
  repeat (any_goals ((with_reducible refine idO ?_); (with_reducible refine oM_gen fun Kv hK=>?_); simp [go_sem]; refine And.intro (by omega) (hK _ _ ?_); clear hK; clear Kv))
  refine writeString_ok w.heap.size _ [] _ _ hB1 (by simp; omega) (by omega) ?_
  intro w2 hB2 hb2
  have hb2' := hb1'.trans hb2
  repeat (any_goals ((with_reducible refine idO ?_); (with_reducible refine oM_gen fun Kv hK=>?_); simp [go_sem]; refine hK _ _ ?_; clear hK; clear Kv))
  refine ⟨fun l w' => ∃ (x : Value) (k : Nat), l = [x, .int .i64 k] ∧ k ≤ xs.length ∧ IsBuilder 199 5 w.heap.size w.heap.size (Lib.byteCells (itoa (xs.length : Nat) ++ 91 :: ((xs.take k).map encInt).flatten)) w' ∧ Below w.heap.size w w', fun l _ => xs.length - (match l with | [_, .int _ n] => n.toNat | _ => 0), ⟨_, 0, rfl, by omega, by simpa using hB2, hb2'⟩, ?_⟩
  rintro _ _ w3 ⟨x, j, rfl, hj, hB3, hb3⟩
  have hz3 := hb3.size
  simp only [List.getD_cons_zero, List.getD_cons_succ]
  have hfl := flat_le encInt xs j
  by_cases hlt : j < xs.length
  · rcases hcell with rfl | ⟨b, o, rfl, hbw, hcells⟩
    · simp at hlt
    have hc := hcells j hlt
    rw [← hb3.cell hbw] at hc
    simp only [intV] at hc
    have hix := idx22 (b := b) (o := o) (c := c) hlt w3
    have hl3 : Laid w3 := hl.below hb3 hl.size
    have hP := hx xs[j] (List.getElem_mem hlt)
    have hfl1 := flat_le encInt xs (j + 1)
    rw [flat_snoc _ _ _ hlt, List.length_append] at hfl1
    repeat (any_goals (first
    | (rw [oM_indexAddr, hix, rM_ok])
    | (with_reducible ((refine idCond ?_); refine yN ?_))
    | ((with_reducible refine idO ?_); (with_reducible refine oM_gen fun Kv hK=>?_); simp [go_sem, hc]; refine hK _ _ ?_; clear hK; clear Kv)))
    refine oM_callv1 (by kernel_rfl) ?_
    refine pInt_ok _ hP hl3 ?_
    intro w4 hb4
    have hz4 := hb4.size
    have hB4 : IsBuilder 199 5 w.heap.size w.heap.size (Lib.byteCells (itoa (xs.length : Nat) ++ 91 :: ((xs.take j).map encInt).flatten)) w4 := IsBuilder.below hB3 hb4
    refine writeString_ok w.heap.size _ _ _ _ hB4 (by simp only [List.length_append, List.length_cons]; omega) (by omega) ?_
    intro w5 hB5 hb5
    repeat (any_goals ((with_reducible refine idO ?_); (with_reducible refine oM_gen fun Kv hK=>?_); simp [go_sem]; (try simp (disch := omega) only [wrapI64, wrapU8, wrapU32, wrapU64]); refine hK _ _ ?_; clear hK; clear Kv))
    refine ⟨⟨_, j + 1, rfl, hlt, ?_, (hb3.trans (hb4.mono hz3)).trans hb5⟩, by simp; omega⟩
    rw [flat_snoc _ _ _ hlt]
    simpa using hB5
  · obtain rfl : j = xs.length := by omega
    rw [List.take_length] at hB3 hfl
    obtain ⟨F, hF⟩ : ∃ F, F = (xs.map encInt).flatten := ⟨_, rfl⟩
    rw [← hF] at hB3 hfl hsz
    repeat (any_goals (first
    | (with_reducible ((refine idCond ?_); refine yM ?_))
    | ((with_reducible refine idO ?_); (with_reducible refine oM_gen fun Kv hK=>?_); simp [go_sem]; refine hK _ _ ?_; clear hK; clear Kv)))
    refine builderString_ok _ _ _ _ hB3 (by omega) ?_
    intro w4 hb4
    repeat (any_goals ((with_reducible refine idO ?_); (with_reducible refine oM_gen fun Kv hK=>?_); simp [go_sem]; refine And.intro (by omega) (hK _ _ ?_); clear hK; clear Kv))
    exact K_eq (k _ (hb3.trans hb4)) (by simp [encList, hF])
theorem pNums_ok (xs : List (Int)) (v : Value) {K : Value → World → Prop} {w : World} (hl : Laid w) (hrow : RowOf intV w v xs) (hx : ∀ x ∈ xs, InR x) (hlen : (encList (xs.map encInt)).length < 2^40)
    (k : ∀ w', Below w.heap.size w w' → K (.string ⟨(encList (xs.map encInt)).toArray⟩) w') : callM Tryz.prog 119 #[v] K w := by
  apply sh_119_ok
  unfold sh_119
  skip
  exact encodedNum_ok xs v hl hrow hx hlen k
end Go.Proofs.Cd
namespace Go.Proofs.Cd
open Go Go.Sh Go.RowKit Go.Lib CodeSpec
set_option linter.unusedSimpArgs false
set_option maxRecDepth 10000
def IsRd (w : World) (b : Nat) (r : Rd) : Prop := w.heap[b]? = some (.cells #[.string ⟨r.rest.toArray⟩, .bool r.bad] 180 (0, 0))
theorem IsRd.c0 {w : World} {b : Nat} {r : Rd} (h : IsRd w b r) : w.cell? ⟨b, 0, none⟩ = some (.string ⟨r.rest.toArray⟩) := by
  unfold IsRd at h; simp [World.cell?, h]
theorem IsRd.c1 {w : World} {b : Nat} {r : Rd} (h : IsRd w b r) : w.cell? ⟨b, 1, none⟩ = some (.bool r.bad) := by
  unfold IsRd at h; simp [World.cell?, h]
theorem IsRd.fz {w : World} {b : Nat} {r : Rd} (h : IsRd w b r) (i : Nat) : w.frozen? ⟨b, i, none⟩ = false := by
  unfold IsRd at h; simp [World.frozen?, h]
theorem IsRd.lt {w : World} {b : Nat} {r : Rd} (h : IsRd w b r) : b < w.heap.size := (Array.getElem?_eq_some_iff.1 h).1
theorem heap_set {w : World} {b i : Nat} {cs : Array Value} {T : TypeId} {f : Nat × Nat} (h : w.heap[b]? = some (.cells cs T f)) (u : Value) : (w.setCell ⟨b, i, none⟩ u).heap[b]? = some (.cells (cs.setIfInBounds i u) T f) := by
  simp [World.setCell, Array.getElem?_modify, h]
theorem IsRd.set1 {w : World} {b : Nat} {r : Rd} (h : IsRd w b r) (t : Bool) : IsRd (w.setCell ⟨b, 1, none⟩ (.bool t)) b ⟨r.rest, t⟩ := by
  unfold IsRd at h ⊢
  rw [heap_set h]; rfl
theorem IsRd.below {w w' : World} {b : Nat} {r : Rd} (h : IsRd w b r) {B : Nat} (hb : Below B w w') (hB : b < B) : IsRd w' b r := by
  unfold IsRd at h ⊢
  rw [hb.block _ hB]; exact h
theorem IsRd.drew {w : World} {b : Nat} {r : Rd} (h : IsRd w b r) : IsRd w.drew b r := h
end Go.Proofs.Cd
namespace Go.Proofs.Cd
open Go Go.Sh Go.RowKit Go.Lib CodeSpec
set_option linter.unusedSimpArgs false
set_option maxRecDepth 10000
theorem open_ok (s : List UInt8) {K : Value → World → Prop} {w : World} (k : ∀ w', IsRd w' w.heap.size ⟨s, false⟩ → Below w.heap.size w w' → K (.pointer (some ⟨w.heap.size, 0, none⟩)) w') : callM Tryz.prog 116 #[.string ⟨s.toArray⟩] K w := by
  apply sh_116_ok
  unfold sh_116
  repeat (any_goals ((with_reducible refine idO ?_); (with_reducible refine oM_gen fun Kv hK=>?_); simp [go_sem]; refine hK _ _ ?_; clear hK; clear Kv))
  exact k _ (by unfold IsRd; exact heap_alloc_new _ _) ((Below.refl _ _).alloc (Nat.le_refl _) _)
end Go.Proofs.Cd
namespace Go.Proofs.Cd
open Go Go.Sh Go.RowKit Go.Lib CodeSpec
set_option linter.unusedSimpArgs false
set_option maxRecDepth 10000
theorem IsRd.own {w2 w3 : World} {b B : Nat} {e : TypeId} {sz n : Nat} {v : Value} {xs : List Value} {r : Rd} (h : IsRd w2 b r) (hown : w2.ownsRow B e sz v n xs) (hB : b < B) (hg : w2.grownBy w3 v.ownBlock) : IsRd w3 b r := by
  have hlt := h.lt
  unfold IsRd at h ⊢
  rw [hg.block b hlt (fun e => by have := (hown.lt b e.symm).1; omega)]
  exact h
end Go.Proofs.Cd
namespace Go.Proofs
open Go Go.Sh Go.RowKit FdSpec TkSpec CodeSpec
set_option linter.unusedSimpArgs false
set_option linter.unusedVariables false
set_option maxRecDepth 10000
def tktL (t : Tkt) : List Int := [t.mark, t.first, t.z, t.a, t.b, t.r]
def encM (t : Tkt) : Bytes := encNums (tktL t)
theorem InR_iff (n : Int) : InR n ↔ I64 n := by unfold InR I64; omega
theorem TktR.all {t : Tkt} (h : TktR t) : ∀ n ∈ tktL t, I64 n := by
  intro n hn
  simp only [tktL, List.mem_cons, List.not_mem_nil, or_false] at hn
  rcases hn with rfl | rfl | rfl | rfl | rfl | rfl
  · exact h.mark
  · exact h.first
  · exact h.z
  · exact h.a
  · exact h.b
  · exact h.r
theorem encM_len {t : Tkt} (h : TktR t) : (encM t).length ≤ 200 := by
  have hi := fun n (hn : n ∈ tktL t) => Cd.encInt_len n ((InR_iff n).2 (h.all n hn))
  have h6 := itoa_len 6 (by unfold InR; omega)
  simp only [encM, encNums, encList, tktL, List.map_cons, List.map_nil, List.length_cons, List.length_nil, List.flatten_cons, List.flatten_nil, List.length_append, List.append_nil] at *
  have a1 := hi t.mark (by simp)
  have a2 := hi t.first (by simp)
  have a3 := hi t.z (by simp)
  have a4 := hi t.a (by simp)
  have a5 := hi t.b (by simp)
  have a6 := hi t.r (by simp)
  have h6' : (Lib.itoa ((0 + 1 + 1 + 1 + 1 + 1 + 1 : Nat) : Int)).length ≤ 20 := h6
  omega
section
variable {K : Value → World → Prop} {w w0 w1 : World} {L : List (Addr × Value)}
theorem sz_tkt (w : World) : (sizeOf 43).run Tryz.prog w = .ok 6 w := by kernel_rfl
theorem al_tkt (w : World) : (Instr.alloc 43 true (.tuple #[])).run Tryz.prog w = .ok (.pointer (some ⟨w.heap.size, 0, none⟩)) (w.alloc (.cells [.int .i64 0, .int .i64 0, .int .i64 0, .int .i64 0, .int .i64 0, .int .i64 0].toArray 43)) := by kernel_rfl
theorem tkt_one (t : Tkt) : ∀ u ∈ tktC t, u.oneCell' = true := by
  intro u hu
  simp only [tktC, List.mem_cons, List.not_mem_nil, or_false] at hu
  rcases hu with rfl | rfl | rfl | rfl | rfl | rfl <;> rfl
theorem store_tkt {K : Value → World → Prop} {T' : TypeId} {g : Nat} (t : Tkt) (hk : KnM w0 L g 6 w)
    (k : ∀ W, KnM w0 L g 6 W → cellsAre W (cellsOf [] g 0 (tktC t)) → K undef W) : oM Tryz.prog (.store 43 (.tmp 0) (.tmp 1)) T' [.pointer (some ⟨g, 0, none⟩), tktV t] K w :=
  store_mine sz_tkt rfl rfl (tkt_one t) hk k
theorem local_tkt {K : Value → World → Prop} {T' T2 : TypeId} (t : Tkt) (hk : Kn w0 L w)
    (k : ∀ b W, Kn w0 (cellsOf L b 0 (tktC t)) W → Below w.heap.size w W → w.heap.size ≤ b → K (.pointer (some ⟨b, 0, none⟩)) W) :
    oM Tryz.prog (.alloc 43) T' [] (fun v w => oM Tryz.prog (.store 43 (.tmp 0) (.tmp 1)) T2 [v, tktV t] (fun _ w => K v w) w) w :=
  local_kn al_tkt rfl sz_tkt rfl rfl (tkt_one t) hk k
theorem mk6 {T : TypeId} (t : Tkt) (ht : TktR t) (k : ∀ v W, Below w.heap.size w W → Ints W v (tktL t) → K v W) : oM Tryz.prog (.buildSlice 22 6 #[(0, .tmp 0), (1, .tmp 1), (2, .tmp 2), (3, .tmp 3), (4, .tmp 4), (5, .tmp 5)]) T [.int .i64 t.mark, .int .i64 t.first, .int .i64 t.z, .int .i64 t.a, .int .i64 t.b, .int .i64 t.r] K w := by
  rw [rM_of (S := Instr.buildSlice 22 6 #[(0, .int .i64 t.mark), (1, .int .i64 t.first), (2, .int .i64 t.z), (3, .int .i64 t.a), (4, .int .i64 t.b), (5, .int .i64 t.r)]) (by simp [xop, execOp, evalL, evE])]
  have e : (Instr.buildSlice 22 6 #[(0, .int .i64 t.mark), (1, .int .i64 t.first), (2, .int .i64 t.z), (3, .int .i64 t.a), (4, .int .i64 t.b), (5, .int .i64 t.r)]).run Tryz.prog w = .ok (.slice (some ⟨w.heap.size, 0, none⟩) 6 6) (w.alloc (.cells #[.int .i64 t.mark, .int .i64 t.first, .int .i64 t.z, .int .i64 t.a, .int .i64 t.b, .int .i64 t.r] 3)) := by kernel_rfl
  rw [e]
  exact k _ _ ((Below.refl _ w).alloc (Nat.le_refl _) _) (ints_alloc w (tktL t) _ 6 ht.all (by simp [tktL]))
theorem Ints.rowOf {v : Value} {l : List Int} (h : Ints w v l) : Cd.RowOf Cd.intV w v l := by
  obtain ⟨⟨ad, c, rfl, h0, hc⟩, hr, hl⟩ := h
  refine ⟨ad, c, rfl, hc.imp id ?_⟩
  rintro ⟨b, o, rfl, hlt, hcell⟩
  exact ⟨b, o, rfl, hlt, fun i hi => hcell i _ (by rw [flat_int]; simp [hi, Cd.intV])⟩
theorem Encode_ok (t : Tkt) (ht : TktR t) (hl : Cd.Laid w) (k : ∀ w', Below w.heap.size w w' → K (.string ⟨(encM t).toArray⟩) w') : callM Tryz.prog 46 #[tktV t] K w := by
  apply sh_46_ok
  unfold sh_46
  refine box_kn (cs := tktC t) rfl (.start w) fun b W hk hb1 hb => ?_
  repeat (any_goals (first
  | ((with_reducible refine mk6 t ht ?_); intro v8 W8 hb8 hi)
  | ((with_reducible refine idO ?_); (with_reducible refine oM_gen fun Kv hK=>?_); simp [go_sem, hk.cells]; refine hK _ _ ?_; clear hK; clear Kv)))
  have hk := hk.next hb8
  refine Cd.pNums_ok (tktL t) v8 (hl.below hk.below hl.size) (Ints.rowOf hi) (fun x hx => (InR_iff x).2 (ht.all x hx)) (by have := encM_len ht; unfold encM encNums at this; omega) (fun w' hb' => ?_)
  exact k _ (hk.next hb').below
end
end Go.Proofs
namespace Go.Proofs
open Go Go.Sh Go.RowKit FdSpec TkSpec CodeSpec
set_option linter.unusedSimpArgs false
set_option linter.unusedVariables false
set_option maxRecDepth 10000
section
@[go_sem] theorem eql_tkt (T : TypeId) (a b : Tkt) : oM Tryz.prog (.binOp .eql 43 (.tmp 0) (.tmp 1) 43) T [tktV a, tktV b] = pureM (.bool (decide (a = b))) := by
  funext K w
  have h1 : (eqGuard .eql 43 (.tmp 0) (.tmp 1) (tktV a) (tktV b)).run Tryz.prog w = .ok () w := run_eqGuard_agg w _ _ _ _ _ _ (by kernel_rfl)
  have h2 : (binOp .eql 43 (tktV a) (tktV b)).run Tryz.prog w = .ok (.bool (decide (a = b))) w := by
    rw [run_eql_struct, run_equalIn_agg w 9999 43 _ _ (by kernel_rfl) (by kernel_rfl)]
    have u3 := Tryz.underlying3
    have e : decide (a = b) = ((a.mark == b.mark) && (a.first == b.first) && (a.z == b.z) && (a.a == b.a) && (a.b == b.b) && (a.r == b.r)) := by
      obtain ⟨a1, a2, a3, a4, a5, a6⟩ := a
      obtain ⟨b1, b2, b3, b4, b5, b6⟩ := b
      simp [Tkt.mk.injEq, and_assoc, Bool.and_assoc]
      rfl
    rw [e]
    simp [go_sem, Program.fieldsOf, Tryz.underlying43, Op.eqFields, part, u3]
    repeat' split
    all_goals simp_all
  unfold oM opM
  simp [xop, execOp, evalL, evE, h1, h2]
  exact Iff.rfl
@[go_sem] theorem eql_off (T : TypeId) (a b : Off) : oM Tryz.prog (.binOp .eql 39 (.tmp 0) (.tmp 1) 39) T [offV a, offV b] = pureM (.bool (decide (a = b))) := by
  funext K w
  have h1 : (eqGuard .eql 39 (.tmp 0) (.tmp 1) (offV a) (offV b)).run Tryz.prog w = .ok () w := run_eqGuard_agg w _ _ _ _ _ _ (by kernel_rfl)
  have h2 : (binOp .eql 39 (offV a) (offV b)).run Tryz.prog w = .ok (.bool (decide (a = b))) w := by
    rw [run_eql_struct, run_equalIn_agg w 9999 39 _ _ (by kernel_rfl) (by kernel_rfl)]
    have u3 := Tryz.underlying3
    have e : decide (a = b) = ((a.z == b.z) && (a.a == b.a) && (a.b == b.b)) := by
      obtain ⟨a1, a2, a3⟩ := a
      obtain ⟨b1, b2, b3⟩ := b
      simp [Off.mk.injEq, and_assoc, Bool.and_assoc]
      rfl
    rw [e]
    simp [go_sem, Program.fieldsOf, Tryz.underlying39, Op.eqFields, part, u3]
    repeat' split
    all_goals simp_all
  unfold oM opM
  simp [xop, execOp, evalL, evE, h1, h2]
  exact Iff.rfl
end
end Go.Proofs
namespace Go.Proofs
open Go Go.Sh Go.RowKit FdSpec TkSpec CodeSpec
set_option linter.unusedSimpArgs false
set_option linter.unusedVariables false
set_option maxRecDepth 10000
theorem dig1 {u : Nat} (h : u < 10) : Lib.decDigits u = [UInt8.ofNat (48 + u)] := by rw [Lib.decDigits]; simp [h]
theorem dig2 {u : Nat} (h : 10 ≤ u) (h2 : u < 100) : Lib.decDigits u = [UInt8.ofNat (48 + u / 10), UInt8.ofNat (48 + u % 10)] := by
  rw [Lib.decDigits, dif_neg (by omega), dig1 (by omega)]; rfl
theorem enc_t0 : encM t0 = [54, 91, 56, 59, 49, 56, 59, 57, 59, 49, 54, 59, 49, 51, 59, 48, 59, 93] := by
  have e0 : Lib.itoa (0 : Int) = [48] := by rw [Lib.itoa, if_neg (by omega)]; simp [dig1]
  have e6 : Lib.itoa (6 : Int) = [54] := by rw [Lib.itoa, if_neg (by omega)]; simp [dig1]
  have e8 : Lib.itoa (8 : Int) = [56] := by rw [Lib.itoa, if_neg (by omega)]; simp [dig1]
  have e9 : Lib.itoa (9 : Int) = [57] := by rw [Lib.itoa, if_neg (by omega)]; simp [dig1]
  have e18 : Lib.itoa (18 : Int) = [49, 56] := by rw [Lib.itoa, if_neg (by omega)]; simp [dig2]
  have e16 : Lib.itoa (16 : Int) = [49, 54] := by rw [Lib.itoa, if_neg (by omega)]; simp [dig2]
  have e13 : Lib.itoa (13 : Int) = [49, 51] := by rw [Lib.itoa, if_neg (by omega)]; simp [dig2]
  simp [encM, encNums, encList, tktL, t0, encInt, e0, e6, e8, e9, e18, e16, e13]
section
variable {K : Value → World → Prop} {w w0 w1 : World} {L : List (Addr × Value)}
theorem mk3 {T : TypeId} (x y z : Int) (hx : I64 x) (hy : I64 y) (hz : I64 z) (k : ∀ ad c W, Below w.heap.size w W → Ints W (.slice ad 3 c) [x, y, z] → K (.slice ad 3 c) W) : oM Tryz.prog (.buildSlice 22 3 #[(0, .tmp 0), (1, .tmp 1), (2, .tmp 2)]) T [.int .i64 x, .int .i64 y, .int .i64 z] K w := by
  rw [oM_buildSlice3]
  have e : (Instr.buildSlice 22 3 #[(0, .int .i64 x), (1, .int .i64 y), (2, .int .i64 z)]).run Tryz.prog w = .ok (.slice (some ⟨w.heap.size, 0, none⟩) 3 3) (w.alloc (.cells #[.int .i64 x, .int .i64 y, .int .i64 z] 3)) := by kernel_rfl
  rw [e]
  exact k _ _ _ ((Below.refl _ w).alloc (Nat.le_refl _) _) (ints_alloc w [x, y, z] _ 3 (by simp; exact ⟨hx, hy, hz⟩) (by simp))
theorem sz_stp (w : World) : (sizeOf 35).run Tryz.prog w = .ok 5 w := by kernel_rfl
theorem al_stp (w : World) : (Instr.alloc 35 true (.tuple #[])).run Tryz.prog w = .ok (.pointer (some ⟨w.heap.size, 0, none⟩)) (w.alloc (.cells [.int .i64 0, .int .i64 0, .int .i64 0, .slice none 0 0, .int .i64 0].toArray 35)) := by kernel_rfl
theorem sz_bld (w : World) : (sizeOf 28).run Tryz.prog w = .ok 4 w := by kernel_rfl
theorem al_bld (w : World) : (Instr.alloc 28 true (.tuple #[])).run Tryz.prog w = .ok (.pointer (some ⟨w.heap.size, 0, none⟩)) (w.alloc (.cells [.int .i64 0, .int .i64 0, .int .i64 0, .slice none 0 0].toArray 28)) := by kernel_rfl
theorem bld_one (b : Bld) (ad : Option Addr) (n c : Nat) : ∀ u ∈ bldC b (.slice ad n c), u.oneCell' = true := by
  intro u hu
  simp only [bldC, List.mem_cons, List.not_mem_nil, or_false] at hu
  rcases hu with rfl | rfl | rfl | rfl <;> rfl
theorem local_stp {K : Value → World → Prop} {T' T2 : TypeId} (s : Stp) (ad : Option Addr) (m c : Nat) (hk : Kn w0 L w)
    (k : ∀ b W, Kn w0 (cellsOf L b 0 (stpC s (.slice ad m c))) W → Below w.heap.size w W → w.heap.size ≤ b → K (.pointer (some ⟨b, 0, none⟩)) W) :
    oM Tryz.prog (.alloc 35) T' [] (fun v w => oM Tryz.prog (.store 35 (.tmp 0) (.tmp 1)) T2 [v, stpV s (.slice ad m c)] (fun _ w => K v w) w) w :=
  local_kn al_stp rfl sz_stp rfl rfl (stp_one s ad m c) hk k
theorem local_bld {K : Value → World → Prop} {T' T2 : TypeId} (b : Bld) (ad : Option Addr) (m c : Nat) (hk : Kn w0 L w)
    (k : ∀ g W, Kn w0 (cellsOf L g 0 (bldC b (.slice ad m c))) W → Below w.heap.size w W → w.heap.size ≤ g → K (.pointer (some ⟨g, 0, none⟩)) W) :
    oM Tryz.prog (.alloc 28) T' [] (fun v w => oM Tryz.prog (.store 28 (.tmp 0) (.tmp 1)) T2 [v, bldV b (.slice ad m c)] (fun _ w => K v w) w) w :=
  local_kn al_bld rfl sz_bld rfl rfl (bld_one b ad m c) hk k
theorem local_off {K : Value → World → Prop} {T' T2 : TypeId} (o : Off) (hk : Kn w0 L w)
    (k : ∀ g W, Kn w0 (cellsOf L g 0 [.int .i64 o.z, .int .i64 o.a, .int .i64 o.b]) W → Below w.heap.size w W → w.heap.size ≤ g → K (.pointer (some ⟨g, 0, none⟩)) W) :
    oM Tryz.prog (.alloc 39) T' [] (fun v w => oM Tryz.prog (.store 39 (.tmp 0) (.tmp 1)) T2 [v, offV o] (fun _ w => K v w) w) w :=
  local_kn al_off rfl sz_off rfl rfl (off_one o) hk k
theorem local_spe {K : Value → World → Prop} {T' T2 : TypeId} (x : Spd) (ad : Option Addr) (m c : Nat) (hk : Kn w0 L w)
    (k : ∀ g W, Kn w0 (cellsOf L g 0 (spdC x (.slice ad m c))) W → Below w.heap.size w W → w.heap.size ≤ g → K (.pointer (some ⟨g, 0, none⟩)) W) :
    oM Tryz.prog (.alloc 47) T' [] (fun v w => oM Tryz.prog (.store 47 (.tmp 0) (.tmp 1)) T2 [v, spdV x (.slice ad m c)] (fun _ w => K v w) w) w :=
  local_kn al_spd rfl sz_spd rfl rfl (spd_one x ad m c) hk k
theorem i64lit {n : Int} (h : -9223372036854775808 ≤ n ∧ n < 9223372036854775808 := by decide) : I64 n := h
structure SE (sv av yv : Value) (w' : World) : Prop where
  setup : SetR w' s0 sv
  at' : Ints w' av [5, 7]
  bl : BldR w' b0 yv
  ld : Cd.Laid w'
theorem SE.next {sv av yv : Value} {w w' : World} (h : SE sv av yv w) (hb : Below w.heap.size w w') : SE sv av yv w' :=
  ⟨h.setup.next hb, h.at'.next hb, h.bl.next hb, h.ld.below hb h.ld.size⟩
theorem t0_R : TktR t0 := ⟨i64lit, i64lit, i64lit, i64lit, i64lit, i64lit⟩
@[reducible] def x0 : Spd := ⟨2, [9, 9, 4]⟩
@[reducible] def y0 : Spd := ⟨5, [10, 3, 0]⟩
@[reducible] def z0 : Spd := ⟨3, [9, 9, 4]⟩
theorem sane_ok (hT : DbT w) (hL : Cd.Laid w) (k : ∀ w', Below w.heap.size w w' → K (.bool true) w') : callM Tryz.prog 22 #[] K w := by
  apply sh_22_ok
  unfold sh_22
  obtain ⟨f1, f2, f3, f4, f5, f6, f7, f8, f9, f10, f11, f12, f13, f14, f15⟩ := sane_facts
  have hk : Kn w [] w := .start w
  iterate 1 (any_goals ((with_reducible refine idO ?_); (with_reducible refine oM_gen fun Kv hK=>?_); simp [go_sem]; refine hK _ _ ?_; clear hK; clear Kv))
  refine mk3 4 16 18 i64lit i64lit i64lit (fun ad c W1 hb1 hbs => ?_)
  have hk := hk.next hb1
  have hs : SetR W1 s0 (.slice ad 3 c) := ⟨⟨i64lit, i64lit, i64lit⟩, hbs, i64lit, hT.next hb1⟩
  iterate 1 (any_goals ((with_reducible refine idO ?_); (with_reducible refine oM_gen fun Kv hK=>?_); simp [go_sem]; refine hK _ _ ?_; clear hK; clear Kv))
  refine local_stp s0 ad 3 c hk (fun gs W2 hk hb2 hg2 => ?_)
  refine mk2 5 7 i64lit i64lit (fun v3 W3 hb3 hat => ?_)
  have hk := hk.next hb3
  refine mk3 1 2 3 i64lit i64lit i64lit (fun yad yc W4 hb4 hys => ?_)
  have hk := hk.next hb4
  iterate 1 (any_goals ((with_reducible refine idO ?_); (with_reducible refine oM_gen fun Kv hK=>?_); simp [go_sem]; refine hK _ _ ?_; clear hK; clear Kv))
  refine local_bld b0 yad 3 yc hk (fun gb W5 hk hb5 hg5 => ?_)
  have hW1 := (hb2.on hb3).on (hb4.on hb5)
  have E : SE (.slice ad 3 c) v3 (.slice yad 3 yc) W5 := ⟨hs.next hW1, hat.next (hb4.on hb5), ⟨i64lit, i64lit, i64lit, hys.next hb5⟩, hL.below hk.below hL.size⟩
  repeat (any_goals ((with_reducible refine idO ?_); (with_reducible refine oM_gen fun Kv hK=>?_); simp [go_sem, hk.cells]; refine hK _ _ ?_; clear hK; clear Kv))
  refine Propose_ok s0 3 2 i64lit i64lit E.setup E.at' (fun w1 h1 => ?_)
  rw [f1]
  have hk := hk.next h1
  have E := E.next h1
  iterate 2 (any_goals ((with_reducible refine idO ?_); (with_reducible refine oM_gen fun Kv hK=>?_); simp [go_sem]; refine hK _ _ ?_; clear hK; clear Kv))
  refine local_off ⟨9, 16, 13⟩ hk (fun go W6 hk hb6 hg6 => ?_)
  have E := E.next hb6
  repeat (any_goals ((with_reducible refine idO ?_); (with_reducible refine oM_gen fun Kv hK=>?_); simp [go_sem, hk.cells]; refine hK _ _ ?_; clear hK; clear Kv))
  refine Use_ok s0 b0 2 i64lit E.setup E.at' E.bl (fun w2 ov2 h2 hi2 => ?_)
  rw [f2] at hi2 ⊢
  obtain ⟨ad2, c2, rfl⟩ := hi2.isSlice
  have hk := hk.next h2
  have E := E.next h2
  iterate 2 (any_goals ((with_reducible refine idO ?_); (with_reducible refine oM_gen fun Kv hK=>?_); simp [go_sem]; refine hK _ _ ?_; clear hK; clear Kv))
  refine local_spe x0 ad2 3 c2 hk (fun gx W7 hk hb7 hg7 => ?_)
  have E := E.next hb7
  have X : SpdR W7 x0 (.slice ad2 3 c2) := ⟨i64lit, hi2.next hb7⟩
  repeat (any_goals ((with_reducible refine idO ?_); (with_reducible refine oM_gen fun Kv hK=>?_); simp [go_sem, hk.cells]; refine hK _ _ ?_; clear hK; clear Kv))
  refine Use_ok s0 b0 5 i64lit E.setup E.at' E.bl (fun w3 ov3 h3 hi3 => ?_)
  rw [f3] at hi3 ⊢
  obtain ⟨ad3, c3, rfl⟩ := hi3.isSlice
  have hk := hk.next h3
  have E := E.next h3
  have X := X.next h3
  iterate 2 (any_goals ((with_reducible refine idO ?_); (with_reducible refine oM_gen fun Kv hK=>?_); simp [go_sem]; refine hK _ _ ?_; clear hK; clear Kv))
  refine local_spe y0 ad3 3 c3 hk (fun gy W8 hk hb8 hg8 => ?_)
  have E := E.next hb8
  have X := X.next hb8
  have Y : SpdR W8 y0 (.slice ad3 3 c3) := ⟨i64lit, hi3.next hb8⟩
  iterate 1 (any_goals ((with_reducible refine idO ?_); (with_reducible refine oM_gen fun Kv hK=>?_); simp [go_sem]; refine hK _ _ ?_; clear hK; clear Kv))
  refine local_tkt t0 hk (fun gt W9 hk hb9 hg9 => ?_)
  have E := E.next hb9
  have X := X.next hb9
  have Y := Y.next hb9
  repeat (any_goals ((with_reducible refine idO ?_); (with_reducible refine oM_gen fun Kv hK=>?_); simp [go_sem, hk.cells]; refine hK _ _ ?_; clear hK; clear Kv))
  refine Trace_ok s0 t0 x0 y0 t0_R E.setup X Y (fun w4 ov4 h4 hi4 => ?_)
  rw [f4] at hi4 ⊢
  have hk := hk.next h4
  have E := E.next h4
  have X := X.next h4
  have Y := Y.next h4
  repeat (any_goals ((with_reducible refine idO ?_); (with_reducible refine oM_gen fun Kv hK=>?_); simp [go_sem, hk.cells]; refine hK _ _ ?_; clear hK; clear Kv))
  refine Trace_ok s0 t0 x0 x0 t0_R E.setup X X (fun w5 ov5 h5 hi5 => ?_)
  rw [f5]
  have hk := hk.next h5
  have E := E.next h5
  have X := X.next h5
  have Y := Y.next h5
  have hi4 := hi4.next h5
  repeat (any_goals (first
  | ((with_reducible refine mk3 9 9 4 i64lit i64lit i64lit ?_); intro ad6 c6 w6 h6 hi6)
  | ((with_reducible refine idO ?_); (with_reducible refine oM_gen fun Kv hK=>?_); simp [go_sem, hk.cells]; refine hK _ _ ?_; clear hK; clear Kv)))
  have hk := hk.next h6
  have E := E.next h6
  have X := X.next h6
  have Y := Y.next h6
  have hi4 := hi4.next h6
  refine Same_ok X.answers hi6 (fun w7 h7 => ?_)
  rw [decide_eq_true rfl]
  have hk := hk.next h7
  have E := E.next h7
  have X := X.next h7
  have Y := Y.next h7
  have hi4 := hi4.next h7
  repeat (any_goals (first
  | ((with_reducible refine mk3 10 3 0 i64lit i64lit i64lit ?_); intro ad8 c8 w8 h8 hi8)
  | (with_reducible ((refine idGd ?_); refine zC ?_))
  | ((with_reducible refine idO ?_); (with_reducible refine oM_gen fun Kv hK=>?_); simp [go_sem, hk.cells]; refine hK _ _ ?_; clear hK; clear Kv)))
  have hk := hk.next h8
  have E := E.next h8
  have X := X.next h8
  have Y := Y.next h8
  have hi4 := hi4.next h8
  refine Same_ok Y.answers hi8 (fun w9 h9 => ?_)
  rw [decide_eq_true rfl]
  have hk := hk.next h9
  have E := E.next h9
  have X := X.next h9
  have Y := Y.next h9
  have hi4 := hi4.next h9
  repeat (any_goals (first
  | (with_reducible first|refine pureM_in ?_|((refine idGd ?_); refine zC ?_)|((refine idPick ?_); refine yC ?_))
  | ((with_reducible refine idO ?_); (with_reducible refine oM_gen fun Kv hK=>?_); simp [go_sem, hk.cells]; refine hK _ _ ?_; clear hK; clear Kv)))
  refine Same_ok hi4 E.at' (fun w10 h10 => ?_)
  rw [decide_eq_true rfl]
  have hk := hk.next h10
  have E := E.next h10
  have X := X.next h10
  have Y := Y.next h10
  repeat (any_goals (first
  | ((with_reducible refine local_spe z0 ad2 3 c2 hk ?_); intro gz W11 hk hb11 hg11)
  | (with_reducible first|refine pureM_in ?_|((refine idGd ?_); refine zC ?_)|((refine idPick ?_); refine yC ?_)|((refine idCond ?_); refine yM ?_))
  | ((with_reducible refine idO ?_); (with_reducible refine oM_gen fun Kv hK=>?_); simp [go_sem, hk.cells]; refine hK _ _ ?_; clear hK; clear Kv)))
  have E := E.next hb11
  have X := X.next hb11
  have Y := Y.next hb11
  have Z : SpdR W11 z0 (.slice ad2 3 c2) := ⟨i64lit, X.answers⟩
  refine Mark_ok s0 E.setup E.at' (fun w12 h12 => ?_)
  rw [f6]
  have hk := hk.next h12
  have E := E.next h12
  have X := X.next h12
  have Y := Y.next h12
  have Z := Z.next h12
  repeat (any_goals (first
  | (with_reducible first|refine pureM_in ?_|((refine idGd ?_); refine zA ?_))
  | ((with_reducible refine idO ?_); (with_reducible refine oM_gen fun Kv hK=>?_); simp [go_sem, hk.cells]; refine hK _ _ ?_; clear hK; clear Kv)))
  refine Usable_ok s0 E.setup E.at' (fun w13 h13 => ?_)
  rw [f7]
  have hk := hk.next h13
  have E := E.next h13
  have X := X.next h13
  have Y := Y.next h13
  have Z := Z.next h13
  repeat (any_goals (first
  | ((with_reducible refine mk2 5 0 i64lit i64lit ?_); intro v14 w14 h14 hi14)
  | (with_reducible first|((refine idGd ?_); refine zA ?_)|((refine idPick ?_); refine yB ?_))
  | ((with_reducible refine idO ?_); (with_reducible refine oM_gen fun Kv hK=>?_); simp [go_sem, hk.cells]; refine hK _ _ ?_; clear hK; clear Kv)))
  have hk := hk.next h14
  have E := E.next h14
  have X := X.next h14
  have Y := Y.next h14
  have Z := Z.next h14
  refine Usable_ok s0 E.setup hi14 (fun w15 h15 => ?_)
  rw [f8]
  have hk := hk.next h15
  have E := E.next h15
  have X := X.next h15
  have Y := Y.next h15
  have Z := Z.next h15
  repeat (any_goals (first
  | (with_reducible first|((refine idGd ?_); refine zA ?_)|((refine idPick ?_); refine yB ?_))
  | ((with_reducible refine idO ?_); (with_reducible refine oM_gen fun Kv hK=>?_); simp [go_sem, hk.cells]; refine hK _ _ ?_; clear hK; clear Kv)))
  refine Public_ok s0 3 i64lit E.setup (fun w16 h16 => ?_)
  rw [f9]
  have hk := hk.next h16
  have E := E.next h16
  have X := X.next h16
  have Y := Y.next h16
  have Z := Z.next h16
  repeat (any_goals (first
  | (with_reducible first|((refine idGd ?_); refine zA ?_)|((refine idPick ?_); refine yB ?_))
  | ((with_reducible refine idO ?_); (with_reducible refine oM_gen fun Kv hK=>?_); simp [go_sem, hk.cells]; refine hK _ _ ?_; clear hK; clear Kv)))
  refine Public_ok s0 0 i64lit E.setup (fun w17 h17 => ?_)
  rw [f10]
  have hk := hk.next h17
  have E := E.next h17
  have X := X.next h17
  have Y := Y.next h17
  have Z := Z.next h17
  repeat (any_goals (first
  | (with_reducible first|((refine idGd ?_); refine zA ?_)|((refine idPick ?_); refine yB ?_))
  | ((with_reducible refine idO ?_); (with_reducible refine oM_gen fun Kv hK=>?_); simp [go_sem, hk.cells]; refine hK _ _ ?_; clear hK; clear Kv)))
  rw [eql_off _ ⟨9, 16, 13⟩ ⟨9, 16, 13⟩, decide_eq_true rfl]
  repeat (any_goals (first
  | (with_reducible first|refine pureM_in ?_|((refine idGd ?_); refine zA ?_)|((refine idPick ?_); refine yB ?_))
  | ((with_reducible refine idO ?_); (with_reducible refine oM_gen fun Kv hK=>?_); simp [go_sem, hk.cells]; refine hK _ _ ?_; clear hK; clear Kv)))
  refine Grant_ok s0 3 2 6 i64lit i64lit i64lit E.setup (fun w18 h18 => ?_)
  rw [f11]
  have hk := hk.next h18
  have E := E.next h18
  have X := X.next h18
  have Y := Y.next h18
  have Z := Z.next h18
  repeat (any_goals (first
  | (with_reducible first|((refine idGd ?_); refine zA ?_)|((refine idPick ?_); refine yB ?_))
  | ((with_reducible refine idO ?_); (with_reducible refine oM_gen fun Kv hK=>?_); simp [go_sem, hk.cells]; refine hK _ _ ?_; clear hK; clear Kv)))
  refine Accepts_ok s0 t0 x0 t0_R E.setup X (fun w19 h19 => ?_)
  rw [f12]
  have hk := hk.next h19
  have E := E.next h19
  have X := X.next h19
  have Y := Y.next h19
  have Z := Z.next h19
  repeat (any_goals (first
  | (with_reducible first|((refine idGd ?_); refine zA ?_)|((refine idPick ?_); refine yB ?_))
  | ((with_reducible refine idO ?_); (with_reducible refine oM_gen fun Kv hK=>?_); simp [go_sem, hk.cells]; refine hK _ _ ?_; clear hK; clear Kv)))
  refine Accepts_ok s0 t0 y0 t0_R E.setup Y (fun w20 h20 => ?_)
  rw [f13]
  have hk := hk.next h20
  have E := E.next h20
  have X := X.next h20
  have Y := Y.next h20
  have Z := Z.next h20
  repeat (any_goals (first
  | (with_reducible first|((refine idGd ?_); refine zA ?_)|((refine idPick ?_); refine yB ?_))
  | ((with_reducible refine idO ?_); (with_reducible refine oM_gen fun Kv hK=>?_); simp [go_sem, hk.cells]; refine hK _ _ ?_; clear hK; clear Kv)))
  refine Accepts_ok s0 t0 z0 t0_R E.setup Z (fun w21 h21 => ?_)
  rw [f14]
  have hk := hk.next h21
  have E := E.next h21
  have X := X.next h21
  have Y := Y.next h21
  have Z := Z.next h21
  repeat (any_goals (first
  | (with_reducible first|refine pureM_in ?_|((refine idGd ?_); refine zA ?_)|((refine idPick ?_); refine yB ?_))
  | ((with_reducible refine idO ?_); (with_reducible refine oM_gen fun Kv hK=>?_); simp [go_sem, hk.cells]; refine hK _ _ ?_; clear hK; clear Kv)))
  refine Guilty_ok s0 t0 x0 y0 t0_R E.setup X Y E.at' (fun w22 h22 => ?_)
  rw [f15]
  have hk := hk.next h22
  have E := E.next h22
  have X := X.next h22
  have Y := Y.next h22
  have Z := Z.next h22
  repeat (any_goals (first
  | (with_reducible first|((refine idGd ?_); refine zA ?_)|((refine idPick ?_); refine yB ?_))
  | ((with_reducible refine idO ?_); (with_reducible refine oM_gen fun Kv hK=>?_); simp [go_sem, hk.cells]; refine hK _ _ ?_; clear hK; clear Kv)))
  refine Encode_ok t0 t0_R E.ld (fun w23 h23 => ?_)
  rw [enc_t0]
  have hk := hk.next h23
  repeat (any_goals (first
  | (with_reducible first|((refine idGd ?_); refine zA ?_)|((refine idPick ?_); refine yB ?_))
  | ((with_reducible refine idO ?_); (with_reducible refine oM_gen fun Kv hK=>?_); simp [go_sem]; refine hK _ _ ?_; clear hK; clear Kv)))
  exact k _ hk.below
end
end Go.Proofs
set_option linter.unusedVariables false
set_option maxRecDepth 100000
namespace Go.Proofs
open Go.Sh
def sh_82 (a0 : Value) (a1 : Value) (a2 : Value) (a3 : Value) (a4 : Value) (K : Value → World → Prop) (w : World) : Prop :=
 oM Tryz.prog (.box 35 (.tmp 0)) 0 [a0] (fun v5_1 w =>
 oM Tryz.prog (.box 39 (.tmp 0)) 0 [a3] (fun v8_2 w =>
 oM Tryz.prog (.box 28 (.tmp 0)) 0 [a4] (fun v9_3 w =>
 oM Tryz.prog (.alloc 127) 0 [] (fun v10_4 w =>
 oM Tryz.prog (.load 35 (.tmp 0)) 35 [v5_1] (fun v18_5 w =>
 callM Tryz.prog 70 #[v18_5, a2] (fun v20_6 w =>
 oM Tryz.prog (.extract (.tmp 0) 0) 111 [v20_6] (fun v21_7 w =>
 oM Tryz.prog (.extract (.tmp 0) 1) 3 [v20_6] (fun v22_8 w =>
 oM Tryz.prog (.extract (.tmp 0) 2) 4 [v20_6] (fun v23_9 w =>
 oM Tryz.prog (.alloc 111) 0 [] (fun v12_10 w =>
 oM Tryz.prog (.store 111 (.tmp 0) (.tmp 1)) 0 [v12_10, v21_7] (fun _ w =>
 oM Tryz.prog (.unOp .not 4 (.tmp 0)) 4 [v23_9] (fun v25_11 w =>
 gdM (gd v25_11 false) (oM Tryz.prog (.load 111 (.tmp 0)) 111 [v12_10]) (fun v27_12 w =>
 gdM (gd v25_11 false) (pureM a1) (fun v28_13 w =>
 gdM (gd v25_11 false) (callM Tryz.prog 125 #[v27_12, v28_13]) (fun v29_14 w =>
 gdM (gd v25_11 false) (oM Tryz.prog (.unOp .not 4 (.tmp 0)) 4 [v29_14]) (fun v30_15 w =>
 oM Tryz.prog (.pick (.tmp 0) (.tmp 1) (.tmp 2)) 4 [v25_11, (.bool true), v30_15] (fun v31_16 w =>
 gdM (gd v31_16 false) (oM Tryz.prog (.load 111 (.tmp 0)) 111 [v12_10]) (fun v33_17 w =>
 gdM (gd v31_16 false) (oM Tryz.prog (.fieldAddr 39 (.tmp 0) 0) 0 [v8_2]) (fun v34_18 w =>
 gdM (gd v31_16 false) (oM Tryz.prog (.load 3 (.tmp 0)) 3 [v34_18]) (fun v35_19 w =>
 gdM (gd v31_16 false) (oM Tryz.prog (.fieldAddr 39 (.tmp 0) 1) 0 [v8_2]) (fun v36_20 w =>
 gdM (gd v31_16 false) (oM Tryz.prog (.load 3 (.tmp 0)) 3 [v36_20]) (fun v37_21 w =>
 gdM (gd v31_16 false) (oM Tryz.prog (.fieldAddr 39 (.tmp 0) 2) 0 [v8_2]) (fun v38_22 w =>
 gdM (gd v31_16 false) (oM Tryz.prog (.load 3 (.tmp 0)) 3 [v38_22]) (fun v39_23 w =>
 gdM (gd v31_16 false) (oM Tryz.prog (.buildSlice 22 3 #[(0, (.tmp 0)), (1, (.tmp 1)), (2, (.tmp 2))]) 22 [v35_19, v37_21, v39_23]) (fun v40_24 w =>
 gdM (gd v31_16 false) (callM Tryz.prog 146 #[v33_17, v40_24]) (fun v41_25 w =>
 gdM (gd v31_16 false) (oM Tryz.prog (.unOp .not 4 (.tmp 0)) 4 [v41_25]) (fun v42_26 w =>
 oM Tryz.prog (.pick (.tmp 0) (.tmp 1) (.tmp 2)) 4 [v31_16, (.bool true), v42_26] (fun v43_27 w =>
 gdM (gd v43_27 false) (oM Tryz.prog (.fieldAddr 39 (.tmp 0) 0) 0 [v8_2]) (fun v45_28 w =>
 gdM (gd v43_27 false) (oM Tryz.prog (.load 3 (.tmp 0)) 3 [v45_28]) (fun v46_29 w =>
 gdM (gd v43_27 false) (oM Tryz.prog (.binOp .eql 3 (.tmp 0) (.const (.int .i64 1)) 3) 4 [v46_29]) (fun v47_30 w =>
 oM Tryz.prog (.pick (.tmp 0) (.tmp 1) (.tmp 2)) 4 [v43_27, (.bool true), v47_30] (fun v48_31 w =>
 gdM (gd v48_31 false) (oM Tryz.prog (.load 111 (.tmp 0)) 111 [v12_10]) (fun v50_32 w =>
 gdM (gd v48_31 false) (oM Tryz.prog (.load 28 (.tmp 0)) 28 [v9_3]) (fun v51_33 w =>
 gdM (gd v48_31 false) (callM Tryz.prog 71 #[v50_32, v51_33]) (fun v52_34 w =>
 gdM (gd v48_31 false) (oM Tryz.prog (.unOp .not 4 (.tmp 0)) 4 [v52_34]) (fun v53_35 w =>
 oM Tryz.prog (.pick (.tmp 0) (.tmp 1) (.tmp 2)) 4 [v48_31, (.bool true), v53_35] (fun v54_36 w =>
 condM v54_36
 (oM Tryz.prog (.build 127 #[]) 127 [] (fun v55_37 w =>
 oM Tryz.prog (.store 127 (.tmp 0) (.tmp 1)) 0 [v10_4, v55_37] (fun _ w =>
 ∃ r_38, (do loadVar 127 (← asAddr v10_4) : Sem Value).run Tryz.prog w = .ok r_38 w ∧ K (.tuple #[r_38, (.int .i64 1)]) w) w) w)
 (heldM w (fun C_39 w => (((true : Bool) = true) ∧ (oH Tryz.prog (.load 111 (.tmp 0)) 111 [v12_10] C_39 (fun v56_40 =>
 pureH v22_8 C_39 (fun v57_41 =>
 oH Tryz.prog (.fieldAddr 28 (.tmp 0) 0) 0 [v9_3] C_39 (fun v58_42 =>
 oH Tryz.prog (.load 3 (.tmp 0)) 3 [v58_42] C_39 (fun v59_43 =>
 oH Tryz.prog (.load 111 (.tmp 0)) 111 [v12_10] C_39 (fun v61_44 =>
 oH Tryz.prog (.fieldAddr 28 (.tmp 0) 3) 0 [v9_3] C_39 (fun v62_45 =>
 oH Tryz.prog (.load 22 (.tmp 0)) 22 [v62_45] C_39 (fun v63_46 =>
 oH Tryz.prog (.load 111 (.tmp 0)) 111 [v12_10] C_39 (fun v65_47 =>
 oH Tryz.prog (.fieldAddr 39 (.tmp 0) 0) 0 [v8_2] C_39 (fun v66_48 =>
 oH Tryz.prog (.load 3 (.tmp 0)) 3 [v66_48] C_39 (fun v67_49 =>
 oH Tryz.prog (.fieldAddr 28 (.tmp 0) 0) 0 [v9_3] C_39 (fun v68_50 =>
 oH Tryz.prog (.load 3 (.tmp 0)) 3 [v68_50] C_39 (fun v69_51 =>
 ∃ S_52 : World → World → Prop, ∃ R_53 : Value → World → Prop, (∀ v w w_1, S_52 w w_1 → R_53 v w → R_53 v w_1) ∧
 (∀ w, C_39 w → (callM Tryz.prog 76 #[v56_40, v57_41, v59_43] (fun v w_1 => C_39 w_1 ∧ S_52 w w_1 ∧ R_53 v w_1) w)) ∧
 (∃ R_54 : Value → World → Prop, (∀ v w w_1, S_52 w w_1 → R_54 v w → R_54 v w_1) ∧
 (∀ w, C_39 w → (callM Tryz.prog 126 #[v61_44, v63_46] (fun v w_1 => C_39 w_1 ∧ S_52 w w_1 ∧ R_54 v w_1) w)) ∧
 (∃ R_55 : Value → World → Prop, (∀ v w w_1, S_52 w w_1 → R_55 v w → R_55 v w_1) ∧
 (∀ w, C_39 w → (callM Tryz.prog 76 #[v65_47, v67_49, v69_51] (fun v w_1 => C_39 w_1 ∧ S_52 w w_1 ∧ R_55 v w_1) w)) ∧
 (∃ R_56 : Value → World → Prop, (∀ v w w_1, S_52 w w_1 → R_56 v w → R_56 v w_1) ∧
 (∀ w, C_39 w → ∀ v60_57, R_53 v60_57 w → ∀ v64_58, R_54 v64_58 w → ∀ v70_59, R_55 v70_59 w → (oM Tryz.prog (.build 43 #[(0, (.tmp 0)), (1, (.tmp 1)), (2, (.tmp 2))]) 43 [v60_57, v64_58, v70_59] (fun v w_1 => C_39 w_1 ∧ S_52 w w_1 ∧ R_56 v w_1) w)) ∧
 (∃ R_60 : Value → World → Prop, (∀ v w w_1, S_52 w w_1 → R_60 v w → R_60 v w_1) ∧
 (∀ w, C_39 w → (oM Tryz.prog (.alloc 43) 0 [] (fun v w_1 => C_39 w_1 ∧ S_52 w w_1 ∧ R_60 v w_1) w)) ∧
 (∀ w, C_39 w → ∀ v60_61, R_53 v60_61 w → ∀ v64_62, R_54 v64_62 w → ∀ v70_63, R_55 v70_63 w → ∀ v71_64, R_56 v71_64 w → ∀ v15_65, R_60 v15_65 w → (
 oM Tryz.prog (.store 43 (.tmp 0) (.tmp 1)) 0 [v15_65, v71_64] (fun _ w => C_39 w ∧ (
 heldM w (fun C_66 w => (((true : Bool) = true) ∧ (oH Tryz.prog (.load 111 (.tmp 0)) 111 [v12_10] C_66 (fun v72_67 =>
 oH Tryz.prog (.load 111 (.tmp 0)) 111 [v12_10] C_66 (fun v73_68 =>
 oH Tryz.prog (.fieldAddr 39 (.tmp 0) 1) 0 [v8_2] C_66 (fun v74_69 =>
 oH Tryz.prog (.load 3 (.tmp 0)) 3 [v74_69] C_66 (fun v75_70 =>
 oH Tryz.prog (.fieldAddr 28 (.tmp 0) 1) 0 [v9_3] C_66 (fun v76_71 =>
 oH Tryz.prog (.load 3 (.tmp 0)) 3 [v76_71] C_66 (fun v77_72 =>
 oH Tryz.prog (.load 111 (.tmp 0)) 111 [v12_10] C_66 (fun v79_73 =>
 oH Tryz.prog (.fieldAddr 28 (.tmp 0) 2) 0 [v9_3] C_66 (fun v80_74 =>
 oH Tryz.prog (.load 3 (.tmp 0)) 3 [v80_74] C_66 (fun v81_75 =>
 ∃ S_76 : World → World → Prop, ∀ w, C_66 w → (
 callM Tryz.prog 76 #[v73_68, v75_70, v77_72] (fun v78_77 w => C_66 w ∧ (
 callM Tryz.prog 77 #[v79_73, v81_75] (fun v82_78 w => C_66 w ∧ (
 oM Tryz.prog (.buildSlice 22 1 #[(0, (.tmp 0))]) 22 [v82_78] (fun v83_79 w => C_66 w ∧ (
 callM Tryz.prog 127 #[v72_67, v78_77, v83_79] (fun v84_80 w => C_66 w ∧ (
 oM Tryz.prog (.fieldAddr 43 (.tmp 0) 3) 0 [v15_65] (fun v85_81 w => C_66 w ∧ (
 oM Tryz.prog (.store 3 (.tmp 0) (.tmp 1)) 0 [v85_81, v84_80] (fun _ w => C_66 w ∧ (
 heldM w (fun C_82 w => (((true : Bool) = true) ∧ (oH Tryz.prog (.load 111 (.tmp 0)) 111 [v12_10] C_82 (fun v86_83 =>
 oH Tryz.prog (.load 111 (.tmp 0)) 111 [v12_10] C_82 (fun v87_84 =>
 oH Tryz.prog (.fieldAddr 39 (.tmp 0) 2) 0 [v8_2] C_82 (fun v88_85 =>
 oH Tryz.prog (.load 3 (.tmp 0)) 3 [v88_85] C_82 (fun v89_86 =>
 oH Tryz.prog (.load 111 (.tmp 0)) 111 [v12_10] C_82 (fun v90_87 =>
 oH Tryz.prog (.fieldAddr 28 (.tmp 0) 0) 0 [v9_3] C_82 (fun v91_88 =>
 oH Tryz.prog (.load 3 (.tmp 0)) 3 [v91_88] C_82 (fun v92_89 =>
 oH Tryz.prog (.fieldAddr 28 (.tmp 0) 1) 0 [v9_3] C_82 (fun v93_90 =>
 oH Tryz.prog (.load 3 (.tmp 0)) 3 [v93_90] C_82 (fun v94_91 =>
 oH Tryz.prog (.load 111 (.tmp 0)) 111 [v12_10] C_82 (fun v98_92 =>
 oH Tryz.prog (.fieldAddr 43 (.tmp 0) 0) 0 [v15_65] C_82 (fun v99_93 =>
 oH Tryz.prog (.load 3 (.tmp 0)) 3 [v99_93] C_82 (fun v100_94 =>
 oH Tryz.prog (.fieldAddr 28 (.tmp 0) 2) 0 [v9_3] C_82 (fun v101_95 =>
 oH Tryz.prog (.load 3 (.tmp 0)) 3 [v101_95] C_82 (fun v102_96 =>
 ∃ S_97 : World → World → Prop, ∀ w, C_82 w → (
 oM Tryz.prog (.buildSlice 22 1 #[(0, (.tmp 0))]) 22 [v94_91] (fun v95_98 w => C_82 w ∧ (
 callM Tryz.prog 75 #[v90_87, v92_89, v95_98] (fun v96_99 w => C_82 w ∧ (
 callM Tryz.prog 76 #[v87_84, v89_86, v96_99] (fun v97_100 w => C_82 w ∧ (
 callM Tryz.prog 76 #[v98_92, v100_94, v102_96] (fun v103_101 w => C_82 w ∧ (
 oM Tryz.prog (.buildSlice 22 1 #[(0, (.tmp 0))]) 22 [v103_101] (fun v104_102 w => C_82 w ∧ (
 callM Tryz.prog 127 #[v86_83, v97_100, v104_102] (fun v105_103 w => C_82 w ∧ (
 oM Tryz.prog (.fieldAddr 43 (.tmp 0) 4) 0 [v15_65] (fun v106_104 w => C_82 w ∧ (
 oM Tryz.prog (.store 3 (.tmp 0) (.tmp 1)) 0 [v106_104, v105_103] (fun _ w => C_82 w ∧ (
 oM Tryz.prog (.load 111 (.tmp 0)) 111 [v12_10] (fun v107_105 w =>
 oM Tryz.prog (.load 43 (.tmp 0)) 43 [v15_65] (fun v108_106 w =>
 callM Tryz.prog 107 #[v107_105, v108_106] (fun v109_107 w =>
 oM Tryz.prog (.binOp .eql 3 (.tmp 0) (.const (.int .i64 0)) 3) 4 [v109_107] (fun v111_108 w =>
 condM v111_108
 (oM Tryz.prog (.build 127 #[]) 127 [] (fun v112_109 w =>
 oM Tryz.prog (.store 127 (.tmp 0) (.tmp 1)) 0 [v10_4, v112_109] (fun _ w =>
 ∃ r_110, (do loadVar 127 (← asAddr v10_4) : Sem Value).run Tryz.prog w = .ok r_110 w ∧ K (.tuple #[r_110, (.int .i64 7)]) w) w) w)
 (heldM w (fun C_111 w => (((true : Bool) = true) ∧ (oH Tryz.prog (.load 111 (.tmp 0)) 111 [v12_10] C_111 (fun v113_112 =>
 pureH v22_8 C_111 (fun v114_113 =>
 oH Tryz.prog (.load 111 (.tmp 0)) 111 [v12_10] C_111 (fun v115_114 =>
 pureH v109_107 C_111 (fun v116_115 =>
 oH Tryz.prog (.fieldAddr 28 (.tmp 0) 1) 0 [v9_3] C_111 (fun v117_116 =>
 oH Tryz.prog (.load 3 (.tmp 0)) 3 [v117_116] C_111 (fun v118_117 =>
 oH Tryz.prog (.load 43 (.tmp 0)) 43 [v15_65] C_111 (fun v120_118 =>
 ∃ S_119 : World → World → Prop, ∀ w, C_111 w → (
 callM Tryz.prog 105 #[v115_114, v116_115, v118_117] (fun v119_120 w => C_111 w ∧ (
 oM Tryz.prog (.build 127 #[(0, (.tmp 0)), (1, (.tmp 1)), (2, (.tmp 2)), (3, (.tmp 3))]) 127 [v113_112, v114_113, v119_120, v120_118] (fun v121_121 w => C_111 w ∧ (
 oM Tryz.prog (.store 127 (.tmp 0) (.tmp 1)) 0 [v10_4, v121_121] (fun _ w => C_111 w ∧ (
 C_111 w ∧ (∃ r_122, (do loadVar 127 (← asAddr v10_4) : Sem Value).run Tryz.prog w = .ok r_122 w ∧ K (.tuple #[r_122, (.int .i64 0)]) w))) w)) w)) w))))))))))))) w) w) w) w)) w)) w)) w)) w)) w)) w)) w)) w)))))))))))))))))))) w)) w)) w)) w)) w)) w))))))))))))))) w))))))))))))))))))))))) w) w) w) w) w) w) w) w) w) w) w) w) w) w) w) w) w) w) w) w) w) w) w) w) w) w) w) w) w) w) w) w) w) w) w) w) w
theorem sh_82_eq (a0 : Value) (a1 : Value) (a2 : Value) (a3 : Value) (a4 : Value) (K : Value → World → Prop) (w : World) : sh_82 a0 a1 a2 a3 a4 K w = code Tryz.prog (fun i => bif Nat.beq i 4 then .mono [0, 1, 2, 3, 5, 6, 7, 9, 10, 11, 12, 13] [4, 8, 14, 15, 16] [17] else bif Nat.beq i 5 then .mono [0, 1, 2, 3, 4, 5, 7, 8, 9] [] [6, 10, 11, 12, 13, 14] else bif Nat.beq i 6 then .mono [0, 1, 2, 3, 4, 5, 6, 7, 8, 12, 13, 14, 15, 16] [] [9, 10, 11, 17, 18, 19, 20, 21] else bif Nat.beq i 10 then .mono [0, 1, 2, 3, 4, 5, 7] [] [6, 8, 9, 10] else 0) 122 (Tryz.f82.body.getD .skip) (slotsAt [a0, a1, a2, a3, a4]) (retK Tryz.prog [.cell 10 127, .tmp 11] K) w := by kernel_rfl
theorem sh_82_ok {a0 a1 a2 a3 a4 : Value} {K : Value → World → Prop} {w : World} (h : sh_82 a0 a1 a2 a3 a4 K w) : callM Tryz.prog 82 #[a0, a1, a2, a3, a4] K w :=
  calls_of_code (fun i => bif Nat.beq i 4 then .mono [0, 1, 2, 3, 5, 6, 7, 9, 10, 11, 12, 13] [4, 8, 14, 15, 16] [17] else bif Nat.beq i 5 then .mono [0, 1, 2, 3, 4, 5, 7, 8, 9] [] [6, 10, 11, 12, 13, 14] else bif Nat.beq i 6 then .mono [0, 1, 2, 3, 4, 5, 6, 7, 8, 12, 13, 14, 15, 16] [] [9, 10, 11, 17, 18, 19, 20, 21] else bif Nat.beq i 10 then .mono [0, 1, 2, 3, 4, 5, 7] [] [6, 8, 9, 10] else 0) (fn := Tryz.f82) (rs := [.cell 10 127, .tmp 11]) Tryz.func82 rfl rfl (by kernel_rfl) (Nat.le_of_ble_eq_true rfl) ((sh_82_eq a0 a1 a2 a3 a4 K w).mp h)
def sh_83 (a0 : Value) (a1 : Value) (a2 : Value) (a3 : Value) (a4 : Value) (a5 : Value) (K : Value → World → Prop) (w : World) : Prop :=
 oM Tryz.prog (.box 111 (.tmp 0)) 0 [a0] (fun v6_1 w =>
 oM Tryz.prog (.box 39 (.tmp 0)) 0 [a5] (fun v11_2 w =>
 heldM w (fun C_3 w => (((true : Bool) = true) ∧ (oH Tryz.prog (.load 111 (.tmp 0)) 111 [v6_1] C_3 (fun v13_4 =>
 pureH a4 C_3 (fun v14_5 =>
 oH Tryz.prog (.load 111 (.tmp 0)) 111 [v6_1] C_3 (fun v16_6 =>
 oH Tryz.prog (.load 111 (.tmp 0)) 111 [v6_1] C_3 (fun v17_7 =>
 pureH a1 C_3 (fun v18_8 =>
 pureH a3 C_3 (fun v19_9 =>
 oH Tryz.prog (.fieldAddr 39 (.tmp 0) 1) 0 [v11_2] C_3 (fun v21_10 =>
 oH Tryz.prog (.load 3 (.tmp 0)) 3 [v21_10] C_3 (fun v22_11 =>
 ∃ S_12 : World → World → Prop, ∃ R_13 : Value → World → Prop, (∀ v w w_1, S_12 w w_1 → R_13 v w → R_13 v w_1) ∧
 (∀ w, C_3 w → (callM Tryz.prog 77 #[v13_4, v14_5] (fun v w_1 => C_3 w_1 ∧ S_12 w w_1 ∧ R_13 v w_1) w)) ∧
 (∃ R_14 : Value → World → Prop, (∀ v w w_1, S_12 w w_1 → R_14 v w → R_14 v w_1) ∧
 (∀ w, C_3 w → (callM Tryz.prog 76 #[v17_7, v18_8, v19_9] (fun v w_1 => C_3 w_1 ∧ S_12 w w_1 ∧ R_14 v w_1) w)) ∧
 (∃ R_15 : Value → World → Prop, (∀ v w w_1, S_12 w w_1 → R_15 v w → R_15 v w_1) ∧
 (∀ w, C_3 w → (oM Tryz.prog (.buildSlice 22 1 #[(0, (.tmp 0))]) 22 [v22_11] (fun v w_1 => C_3 w_1 ∧ S_12 w w_1 ∧ R_15 v w_1) w)) ∧
 (∃ R_16 : Value → World → Prop, (∀ v w w_1, S_12 w w_1 → R_16 v w → R_16 v w_1) ∧
 (∀ w, C_3 w → ∀ v20_17, R_14 v20_17 w → ∀ v23_18, R_15 v23_18 w → (callM Tryz.prog 127 #[v16_6, v20_17, v23_18] (fun v w_1 => C_3 w_1 ∧ S_12 w w_1 ∧ R_16 v w_1) w)) ∧
 (∃ R_19 : Value → World → Prop, (∀ v w w_1, S_12 w w_1 → R_19 v w → R_19 v w_1) ∧
 (∀ w, C_3 w → ∀ v15_20, R_13 v15_20 w → ∀ v24_21, R_16 v24_21 w → (oM Tryz.prog (.binOp .eql 3 (.tmp 0) (.tmp 1) 3) 4 [v15_20, v24_21] (fun v w_1 => C_3 w_1 ∧ S_12 w w_1 ∧ R_19 v w_1) w)) ∧
 (∃ R_22 : Value → World → Prop, (∀ v w w_1, S_12 w w_1 → R_22 v w → R_22 v w_1) ∧
 (∀ w, C_3 w → ∀ v25_23, R_19 v25_23 w → (C_3 w ∧ S_12 w w ∧ R_22 v25_23 w)) ∧
 (∃ R_24 : Value → World → Prop, (∀ v w w_1, S_12 w w_1 → R_24 v w → R_24 v w_1) ∧
 (∀ w, C_3 w → ∀ v26_25, R_22 v26_25 w → (gdM (gd v26_25 true) (oM Tryz.prog (.load 111 (.tmp 0)) 111 [v6_1]) (fun v w_1 => C_3 w_1 ∧ S_12 w w_1 ∧ R_24 v w_1) w)) ∧
 (∃ R_26 : Value → World → Prop, (∀ v w w_1, S_12 w w_1 → R_26 v w → R_26 v w_1) ∧
 (∀ w, C_3 w → ∀ v26_27, R_22 v26_27 w → (gdM (gd v26_27 true) (pureM a2) (fun v w_1 => C_3 w_1 ∧ S_12 w w_1 ∧ R_26 v w_1) w)) ∧
 (∃ R_28 : Value → World → Prop, (∀ v w w_1, S_12 w w_1 → R_28 v w → R_28 v w_1) ∧
 (∀ w, C_3 w → ∀ v26_29, R_22 v26_29 w → (gdM (gd v26_29 true) (pureM a4) (fun v w_1 => C_3 w_1 ∧ S_12 w w_1 ∧ R_28 v w_1) w)) ∧
 (∃ R_30 : Value → World → Prop, (∀ v w w_1, S_12 w w_1 → R_30 v w → R_30 v w_1) ∧
 (∀ w, C_3 w → ∀ v26_31, R_22 v26_31 w → ∀ v27_32, R_24 v27_32 w → ∀ v28_33, R_26 v28_33 w → ∀ v29_34, R_28 v29_34 w → (gdM (gd v26_31 true) (callM Tryz.prog 76 #[v27_32, v28_33, v29_34]) (fun v w_1 => C_3 w_1 ∧ S_12 w w_1 ∧ R_30 v w_1) w)) ∧
 (∃ R_35 : Value → World → Prop, (∀ v w w_1, S_12 w w_1 → R_35 v w → R_35 v w_1) ∧
 (∀ w, C_3 w → ∀ v26_36, R_22 v26_36 w → (gdM (gd v26_36 true) (oM Tryz.prog (.load 111 (.tmp 0)) 111 [v6_1]) (fun v w_1 => C_3 w_1 ∧ S_12 w w_1 ∧ R_35 v w_1) w)) ∧
 (∃ R_37 : Value → World → Prop, (∀ v w w_1, S_12 w w_1 → R_37 v w → R_37 v w_1) ∧
 (∀ w, C_3 w → ∀ v26_38, R_22 v26_38 w → (gdM (gd v26_38 true) (oM Tryz.prog (.load 111 (.tmp 0)) 111 [v6_1]) (fun v w_1 => C_3 w_1 ∧ S_12 w w_1 ∧ R_37 v w_1) w)) ∧
 (∃ R_39 : Value → World → Prop, (∀ v w w_1, S_12 w w_1 → R_39 v w → R_39 v w_1) ∧
 (∀ w, C_3 w → ∀ v26_40, R_22 v26_40 w → (gdM (gd v26_40 true) (oM Tryz.prog (.fieldAddr 39 (.tmp 0) 0) 0 [v11_2]) (fun v w_1 => C_3 w_1 ∧ S_12 w w_1 ∧ R_39 v w_1) w)) ∧
 (∃ R_41 : Value → World → Prop, (∀ v w w_1, S_12 w w_1 → R_41 v w → R_41 v w_1) ∧
 (∀ w, C_3 w → ∀ v26_42, R_22 v26_42 w → ∀ v33_43, R_39 v33_43 w → (gdM (gd v26_42 true) (oM Tryz.prog (.load 3 (.tmp 0)) 3 [v33_43]) (fun v w_1 => C_3 w_1 ∧ S_12 w w_1 ∧ R_41 v w_1) w)) ∧
 (∃ R_44 : Value → World → Prop, (∀ v w w_1, S_12 w w_1 → R_44 v w → R_44 v w_1) ∧
 (∀ w, C_3 w → ∀ v26_45, R_22 v26_45 w → (gdM (gd v26_45 true) (pureM a3) (fun v w_1 => C_3 w_1 ∧ S_12 w w_1 ∧ R_44 v w_1) w)) ∧
 (∃ R_46 : Value → World → Prop, (∀ v w w_1, S_12 w w_1 → R_46 v w → R_46 v w_1) ∧
 (∀ w, C_3 w → ∀ v26_47, R_22 v26_47 w → ∀ v32_48, R_37 v32_48 w → ∀ v34_49, R_41 v34_49 w → ∀ v35_50, R_44 v35_50 w → (gdM (gd v26_47 true) (callM Tryz.prog 76 #[v32_48, v34_49, v35_50]) (fun v w_1 => C_3 w_1 ∧ S_12 w w_1 ∧ R_46 v w_1) w)) ∧
 (∃ R_51 : Value → World → Prop, (∀ v w w_1, S_12 w w_1 → R_51 v w → R_51 v w_1) ∧
 (∀ w, C_3 w → ∀ v26_52, R_22 v26_52 w → (gdM (gd v26_52 true) (oM Tryz.prog (.fieldAddr 39 (.tmp 0) 2) 0 [v11_2]) (fun v w_1 => C_3 w_1 ∧ S_12 w w_1 ∧ R_51 v w_1) w)) ∧
 (∃ R_53 : Value → World → Prop, (∀ v w w_1, S_12 w w_1 → R_53 v w → R_53 v w_1) ∧
 (∀ w, C_3 w → ∀ v26_54, R_22 v26_54 w → ∀ v37_55, R_51 v37_55 w → (gdM (gd v26_54 true) (oM Tryz.prog (.load 3 (.tmp 0)) 3 [v37_55]) (fun v w_1 => C_3 w_1 ∧ S_12 w w_1 ∧ R_53 v w_1) w)) ∧
 (∃ R_56 : Value → World → Prop, (∀ v w w_1, S_12 w w_1 → R_56 v w → R_56 v w_1) ∧
 (∀ w, C_3 w → ∀ v26_57, R_22 v26_57 w → ∀ v38_58, R_53 v38_58 w → (gdM (gd v26_57 true) (oM Tryz.prog (.buildSlice 22 1 #[(0, (.tmp 0))]) 22 [v38_58]) (fun v w_1 => C_3 w_1 ∧ S_12 w w_1 ∧ R_56 v w_1) w)) ∧
 (∀ w, C_3 w → ∀ v15_59, R_13 v15_59 w → ∀ v20_60, R_14 v20_60 w → ∀ v23_61, R_15 v23_61 w → ∀ v24_62, R_16 v24_62 w → ∀ v25_63, R_19 v25_63 w → ∀ v26_64, R_22 v26_64 w → ∀ v27_65, R_24 v27_65 w → ∀ v28_66, R_26 v28_66 w → ∀ v29_67, R_28 v29_67 w → ∀ v30_68, R_30 v30_68 w → ∀ v31_69, R_35 v31_69 w → ∀ v32_70, R_37 v32_70 w → ∀ v33_71, R_39 v33_71 w → ∀ v34_72, R_41 v34_72 w → ∀ v35_73, R_44 v35_73 w → ∀ v36_74, R_46 v36_74 w → ∀ v37_75, R_51 v37_75 w → ∀ v38_76, R_53 v38_76 w → ∀ v39_77, R_56 v39_77 w → (
 gdM (gd v26_64 true) (callM Tryz.prog 127 #[v31_69, v36_74, v39_77]) (fun v40_78 w => C_3 w ∧ (
 gdM (gd v26_64 true) (oM Tryz.prog (.binOp .eql 3 (.tmp 0) (.tmp 1) 3) 4 [v30_68, v40_78]) (fun v41_79 w => C_3 w ∧ (
 oM Tryz.prog (.pick (.tmp 0) (.tmp 1) (.tmp 2)) 4 [v26_64, v41_79, (.bool false)] (fun v42_80 w => C_3 w ∧ (
 C_3 w ∧ (K v42_80 w))) w)) w)) w)))))))))))))))))))))))))))))))) w) w
theorem sh_83_eq (a0 : Value) (a1 : Value) (a2 : Value) (a3 : Value) (a4 : Value) (a5 : Value) (K : Value → World → Prop) (w : World) : sh_83 a0 a1 a2 a3 a4 a5 K w = code Tryz.prog (fun _ => .mono [0, 1, 3, 4, 5, 6, 8, 9] [2, 7, 10, 11, 12, 13, 14, 15, 16, 17, 18, 19, 20, 21, 22, 23, 24, 25, 26] [27, 28, 29, 30]) 43 (Tryz.f83.body.getD .skip) (slotsAt [a0, a1, a2, a3, a4, a5]) (retK Tryz.prog [.tmp 12] K) w := by kernel_rfl
theorem sh_83_ok {a0 a1 a2 a3 a4 a5 : Value} {K : Value → World → Prop} {w : World} (h : sh_83 a0 a1 a2 a3 a4 a5 K w) : callM Tryz.prog 83 #[a0, a1, a2, a3, a4, a5] K w :=
  calls_of_code (fun _ => .mono [0, 1, 3, 4, 5, 6, 8, 9] [2, 7, 10, 11, 12, 13, 14, 15, 16, 17, 18, 19, 20, 21, 22, 23, 24, 25, 26] [27, 28, 29, 30]) (fn := Tryz.f83) (rs := [.tmp 12]) Tryz.func83 rfl rfl (by kernel_rfl) (Nat.le_of_ble_eq_true rfl) ((sh_83_eq a0 a1 a2 a3 a4 a5 K w).mp h)
def sh_18 (a0 : Value) (a1 : Value) (a2 : Value) (a3 : Value) (a4 : Value) (K : Value → World → Prop) (w : World) : Prop :=
 oM Tryz.prog (.box 35 (.tmp 0)) 0 [a0] (fun v5_1 w =>
 oM Tryz.prog (.box 39 (.tmp 0)) 0 [a3] (fun v8_2 w =>
 oM Tryz.prog (.box 28 (.tmp 0)) 0 [a4] (fun v9_3 w =>
 oM Tryz.prog (.load 35 (.tmp 0)) 35 [v5_1] (fun v15_4 w =>
 oM Tryz.prog (.load 39 (.tmp 0)) 39 [v8_2] (fun v18_5 w =>
 oM Tryz.prog (.load 28 (.tmp 0)) 28 [v9_3] (fun v19_6 w =>
 callM Tryz.prog 82 #[v15_4, a1, a2, v18_5, v19_6] (fun v20_7 w =>
 oM Tryz.prog (.extract (.tmp 0) 0) 127 [v20_7] (fun v21_8 w =>
 oM Tryz.prog (.extract (.tmp 0) 1) 50 [v20_7] (fun v22_9 w =>
 oM Tryz.prog (.alloc 127) 0 [] (fun v12_10 w =>
 oM Tryz.prog (.store 127 (.tmp 0) (.tmp 1)) 0 [v12_10, v21_8] (fun _ w =>
 oM Tryz.prog (.fieldAddr 127 (.tmp 0) 2) 0 [v12_10] (fun v23_11 w =>
 oM Tryz.prog (.load 3 (.tmp 0)) 3 [v23_11] (fun v24_12 w =>
 K (.tuple #[v24_12, v22_9]) w) w) w) w) w) w) w) w) w) w) w) w) w) w
theorem sh_18_eq (a0 : Value) (a1 : Value) (a2 : Value) (a3 : Value) (a4 : Value) (K : Value → World → Prop) (w : World) : sh_18 a0 a1 a2 a3 a4 K w = code Tryz.prog (fun _ => 0) 26 (Tryz.f18.body.getD .skip) (slotsAt [a0, a1, a2, a3, a4]) (retK Tryz.prog [.tmp 10, .tmp 11] K) w := by kernel_rfl
theorem sh_18_ok {a0 a1 a2 a3 a4 : Value} {K : Value → World → Prop} {w : World} (h : sh_18 a0 a1 a2 a3 a4 K w) : callM Tryz.prog 18 #[a0, a1, a2, a3, a4] K w :=
  calls_of_code (fun _ => 0) (fn := Tryz.f18) (rs := [.tmp 10, .tmp 11]) Tryz.func18 rfl rfl (by kernel_rfl) (Nat.le_of_ble_eq_true rfl) ((sh_18_eq a0 a1 a2 a3 a4 K w).mp h)
def sh_20 (a0 : Value) (a1 : Value) (a2 : Value) (a3 : Value) (a4 : Value) (a5 : Value) (K : Value → World → Prop) (w : World) : Prop :=
 oM Tryz.prog (.box 35 (.tmp 0)) 0 [a0] (fun v6_1 w =>
 oM Tryz.prog (.box 39 (.tmp 0)) 0 [a3] (fun v9_2 w =>
 oM Tryz.prog (.box 28 (.tmp 0)) 0 [a4] (fun v10_3 w =>
 oM Tryz.prog (.alloc 43) 0 [] (fun v12_4 w =>
 oM Tryz.prog (.load 35 (.tmp 0)) 35 [v6_1] (fun v17_5 w =>
 oM Tryz.prog (.load 39 (.tmp 0)) 39 [v9_2] (fun v20_6 w =>
 oM Tryz.prog (.load 28 (.tmp 0)) 28 [v10_3] (fun v21_7 w =>
 callM Tryz.prog 82 #[v17_5, a1, a2, v20_6, v21_7] (fun v22_8 w =>
 oM Tryz.prog (.extract (.tmp 0) 0) 127 [v22_8] (fun v23_9 w =>
 oM Tryz.prog (.extract (.tmp 0) 1) 50 [v22_8] (fun v24_10 w =>
 oM Tryz.prog (.alloc 127) 0 [] (fun v14_11 w =>
 oM Tryz.prog (.store 127 (.tmp 0) (.tmp 1)) 0 [v14_11, v23_9] (fun _ w =>
 oM Tryz.prog (.binOp .neq 50 (.tmp 0) (.const (.int .i64 0)) 50) 4 [v24_10] (fun v27_12 w =>
 condM v27_12
 (oM Tryz.prog (.build 43 #[]) 43 [] (fun v28_13 w =>
 oM Tryz.prog (.store 43 (.tmp 0) (.tmp 1)) 0 [v12_4, v28_13] (fun _ w =>
 ∃ r_14, (do loadVar 43 (← asAddr v12_4) : Sem Value).run Tryz.prog w = .ok r_14 w ∧ K (.tuple #[r_14, v24_10]) w) w) w)
 (oM Tryz.prog (.fieldAddr 127 (.tmp 0) 0) 0 [v14_11] (fun v31_15 w =>
 oM Tryz.prog (.load 111 (.tmp 0)) 111 [v31_15] (fun v32_16 w =>
 oM Tryz.prog (.buildSlice 22 1 #[(0, (.tmp 0))]) 22 [a5] (fun v34_17 w =>
 callM Tryz.prog 72 #[v32_16, (.int .i64 0), v34_17] (fun v35_18 w =>
 oM Tryz.prog (.unOp .not 4 (.tmp 0)) 4 [v35_18] (fun v36_19 w =>
 condM v36_19
 (oM Tryz.prog (.build 43 #[]) 43 [] (fun v37_20 w =>
 oM Tryz.prog (.store 43 (.tmp 0) (.tmp 1)) 0 [v12_4, v37_20] (fun _ w =>
 ∃ r_21, (do loadVar 43 (← asAddr v12_4) : Sem Value).run Tryz.prog w = .ok r_21 w ∧ K (.tuple #[r_21, (.int .i64 1)]) w) w) w)
 (oM Tryz.prog (.fieldAddr 127 (.tmp 0) 0) 0 [v14_11] (fun v39_22 w =>
 oM Tryz.prog (.load 111 (.tmp 0)) 111 [v39_22] (fun v40_23 w =>
 oM Tryz.prog (.fieldAddr 127 (.tmp 0) 1) 0 [v14_11] (fun v42_24 w =>
 oM Tryz.prog (.load 3 (.tmp 0)) 3 [v42_24] (fun v43_25 w =>
 oM Tryz.prog (.fieldAddr 127 (.tmp 0) 2) 0 [v14_11] (fun v44_26 w =>
 oM Tryz.prog (.load 3 (.tmp 0)) 3 [v44_26] (fun v45_27 w =>
 oM Tryz.prog (.load 39 (.tmp 0)) 39 [v9_2] (fun v47_28 w =>
 callM Tryz.prog 83 #[v40_23, a1, v43_25, v45_27, a5, v47_28] (fun v48_29 w =>
 oM Tryz.prog (.unOp .not 4 (.tmp 0)) 4 [v48_29] (fun v49_30 w =>
 condM v49_30
 (oM Tryz.prog (.build 43 #[]) 43 [] (fun v50_31 w =>
 oM Tryz.prog (.store 43 (.tmp 0) (.tmp 1)) 0 [v12_4, v50_31] (fun _ w =>
 ∃ r_32, (do loadVar 43 (← asAddr v12_4) : Sem Value).run Tryz.prog w = .ok r_32 w ∧ K (.tuple #[r_32, (.int .i64 14)]) w) w) w)
 (heldM w (fun C_33 w => (((true : Bool) = true) ∧ (oH Tryz.prog (.fieldAddr 127 (.tmp 0) 0) 0 [v14_11] C_33 (fun v51_34 =>
 oH Tryz.prog (.load 111 (.tmp 0)) 111 [v51_34] C_33 (fun v52_35 =>
 oH Tryz.prog (.fieldAddr 127 (.tmp 0) 0) 0 [v14_11] C_33 (fun v53_36 =>
 oH Tryz.prog (.load 111 (.tmp 0)) 111 [v53_36] C_33 (fun v54_37 =>
 pureH a5 C_33 (fun v55_38 =>
 oH Tryz.prog (.fieldAddr 28 (.tmp 0) 1) 0 [v10_3] C_33 (fun v56_39 =>
 oH Tryz.prog (.load 3 (.tmp 0)) 3 [v56_39] C_33 (fun v57_40 =>
 oH Tryz.prog (.fieldAddr 28 (.tmp 0) 2) 0 [v10_3] C_33 (fun v60_41 =>
 oH Tryz.prog (.load 3 (.tmp 0)) 3 [v60_41] C_33 (fun v61_42 =>
 ∃ S_43 : World → World → Prop, ∀ w, C_33 w → (
 oM Tryz.prog (.buildSlice 22 1 #[(0, (.tmp 0))]) 22 [v57_40] (fun v58_44 w => C_33 w ∧ (
 callM Tryz.prog 75 #[v54_37, v55_38, v58_44] (fun v59_45 w => C_33 w ∧ (
 callM Tryz.prog 74 #[v52_35, v59_45, v61_42] (fun v62_46 w => C_33 w ∧ (
 oM Tryz.prog (.fieldAddr 127 (.tmp 0) 3) 0 [v14_11] (fun v63_47 w => C_33 w ∧ (
 oM Tryz.prog (.fieldAddr 43 (.tmp 0) 5) 0 [v63_47] (fun v64_48 w => C_33 w ∧ (
 oM Tryz.prog (.store 3 (.tmp 0) (.tmp 1)) 0 [v64_48, v62_46] (fun _ w => C_33 w ∧ (
 oM Tryz.prog (.fieldAddr 127 (.tmp 0) 3) 0 [v14_11] (fun v65_49 w =>
 oM Tryz.prog (.load 43 (.tmp 0)) 43 [v65_49] (fun v66_50 w =>
 oM Tryz.prog (.store 43 (.tmp 0) (.tmp 1)) 0 [v12_4, v66_50] (fun _ w =>
 ∃ r_51, (do loadVar 43 (← asAddr v12_4) : Sem Value).run Tryz.prog w = .ok r_51 w ∧ K (.tuple #[r_51, (.int .i64 0)]) w) w) w) w)) w)) w)) w)) w)) w)) w))))))))))))))) w) w) w) w) w) w) w) w) w)) w) w) w) w) w)) w) w) w) w) w) w) w) w) w) w) w) w) w
theorem sh_20_eq (a0 : Value) (a1 : Value) (a2 : Value) (a3 : Value) (a4 : Value) (a5 : Value) (K : Value → World → Prop) (w : World) : sh_20 a0 a1 a2 a3 a4 a5 K w = code Tryz.prog (fun _ => .mono [0, 1, 2, 3, 4, 5, 6, 9, 10] [] [7, 8, 11, 12, 13, 14]) 67 (Tryz.f20.body.getD .skip) (slotsAt [a0, a1, a2, a3, a4, a5]) (retK Tryz.prog [.cell 12 43, .tmp 13] K) w := by kernel_rfl
theorem sh_20_ok {a0 a1 a2 a3 a4 a5 : Value} {K : Value → World → Prop} {w : World} (h : sh_20 a0 a1 a2 a3 a4 a5 K w) : callM Tryz.prog 20 #[a0, a1, a2, a3, a4, a5] K w :=
  calls_of_code (fun _ => .mono [0, 1, 2, 3, 4, 5, 6, 9, 10] [] [7, 8, 11, 12, 13, 14]) (fn := Tryz.f20) (rs := [.cell 12 43, .tmp 13]) Tryz.func20 rfl rfl (by kernel_rfl) (Nat.le_of_ble_eq_true rfl) ((sh_20_eq a0 a1 a2 a3 a4 a5 K w).mp h)
end Go.Proofs
set_option linter.unusedVariables false
set_option maxRecDepth 100000
namespace Go.Proofs
open Go.Sh
def sh_171 (a0 : Value) (K : Value → World → Prop) (w : World) : Prop :=
 oM Tryz.prog (.convert 9 189 (.tmp 0)) 189 [a0] (fun v10_1 w =>
 oM Tryz.prog (.buildSlice 189 1 #[(0, (.tmp 0))]) 189 [(.int .u8 128)] (fun v11_2 w =>
 oM Tryz.prog (.call (Go.Call.mk (.builtin .append) #[(.tmp 0), (.tmp 1)] #[189, 189])) 189 [v10_1, v11_2] (fun v12_3 w =>
 loopM [v12_3] w (fun J_4 m_5 l_6 u_l_6 w0_l_6 => (fun w => (
 oM Tryz.prog (.call (Go.Call.mk (.builtin .len) #[(.tmp 0)] #[189])) 3 [(l_6.getD 0 undef)] (fun v14_7 w =>
 oM Tryz.prog (.binOp .rem 3 (.tmp 0) (.tmp 1) 3) 3 [v14_7, (.int .i64 64)] (fun v15_8 w =>
 oM Tryz.prog (.binOp .neq 3 (.tmp 0) (.const (.int .i64 56)) 3) 4 [v15_8] (fun v16_9 w =>
 condM v16_9
 (oM Tryz.prog (.buildSlice 189 1 #[(0, (.tmp 0))]) 189 [(.int .u8 0)] (fun v18_10 w =>
 oM Tryz.prog (.call (Go.Call.mk (.builtin .append) #[(.tmp 0), (.tmp 1)] #[189, 189])) 189 [(l_6.getD 0 undef), v18_10] (fun v19_11 w =>
 J_4 [v19_11] w ∧ m_5 [v19_11] w < m_5 l_6 w0_l_6) w) w)
 (loopM [(l_6.getD 0 undef), (.int .i64 56)] w (fun J_12 m_13 l_14 u_l_14 w0_l_14 => (fun w => (
 oM Tryz.prog (.binOp .geq 3 (.tmp 0) (.tmp 1) 3) 4 [(l_14.getD 1 undef), (.int .i64 0)] (fun v21_15 w =>
 condM v21_15
 (oM Tryz.prog (.call (Go.Call.mk (.builtin .len) #[(.tmp 0)] #[9])) 3 [a0] (fun v26_16 w =>
 oM Tryz.prog (.convert 3 123 (.tmp 0)) 123 [v26_16] (fun v27_17 w =>
 oM Tryz.prog (.binOp .mul 123 (.tmp 0) (.tmp 1) 123) 123 [(.int .u64 8), v27_17] (fun v28_18 w =>
 oM Tryz.prog (.binOp .shr 123 (.tmp 0) (.tmp 1) 3) 123 [v28_18, (l_14.getD 1 undef)] (fun v30_19 w =>
 oM Tryz.prog (.convert 123 5 (.tmp 0)) 5 [v30_19] (fun v31_20 w =>
 oM Tryz.prog (.buildSlice 189 1 #[(0, (.tmp 0))]) 189 [v31_20] (fun v32_21 w =>
 oM Tryz.prog (.call (Go.Call.mk (.builtin .append) #[(.tmp 0), (.tmp 1)] #[189, 189])) 189 [(l_14.getD 0 undef), v32_21] (fun v33_22 w =>
 oM Tryz.prog (.binOp .sub 3 (.tmp 0) (.tmp 1) 3) 3 [(l_14.getD 1 undef), (.int .i64 8)] (fun v23_23 w =>
 J_12 [v33_22, v23_23] w ∧ m_13 [v33_22, v23_23] w < m_13 l_14 w0_l_14) w) w) w) w) w) w) w) w)
 (callM Tryz.prog 195 #[] (fun v34_24 w =>
 oM Tryz.prog (.alloc 207) 0 [] (fun v5_25 w =>
 oM Tryz.prog (.store 207 (.tmp 0) (.tmp 1)) 0 [v5_25, v34_24] (fun _ w =>
 loopM [(l_14.getD 0 undef)] w (fun J_26 m_27 l_28 u_l_28 w0_l_28 => (fun w => (
 oM Tryz.prog (.call (Go.Call.mk (.builtin .len) #[(.tmp 0)] #[189])) 3 [(l_28.getD 0 undef)] (fun v36_29 w =>
 oM Tryz.prog (.binOp .gtr 3 (.tmp 0) (.tmp 1) 3) 4 [v36_29, (.int .i64 0)] (fun v37_30 w =>
 condM v37_30
 (stageM w (fun C_31 w => (oH Tryz.prog (.load 207 (.tmp 0)) 207 [v5_25] (upto C_31 0) (fun v40_32 =>
 pureH (l_28.getD 0 undef) (upto C_31 0) (fun v41_33 =>
 oH Tryz.prog (.slice 189 (.tmp 0) none (some (.tmp 1)) none) 189 [v41_33, (.int .i64 64)] (upto C_31 0) (fun v42_34 =>
 callM Tryz.prog 196 #[v40_32, v42_34] (fun v43_35 w => C_31 1 w ∧ (
 oM Tryz.prog (.store 207 (.tmp 0) (.tmp 1)) 0 [v5_25, v43_35] (fun _ w => C_31 2 w ∧ (
 oM Tryz.prog (.slice 189 (.tmp 0) (some (.tmp 1)) none none) 189 [(l_28.getD 0 undef), (.int .i64 64)] (fun v39_36 w =>
 J_26 [v39_36] w ∧ m_27 [v39_36] w < m_27 l_28 w0_l_28) w)) w)) w))))))
 (oM Tryz.prog (.load 207 (.tmp 0)) 207 [v5_25] (fun v44_37 w =>
 loopM [undef, (.slice none 0 0), (.int .i64 0)] w (fun J_38 m_39 l_40 u_l_40 w0_l_40 => (fun w => (
 oM Tryz.prog (.binOp .lss 3 (.tmp 0) (.tmp 1) 3) 0 [(l_40.getD 2 undef), (.int .i64 8)] (fun v46_41 w =>
 condM v46_41
 (oM Tryz.prog (.index 207 (.tmp 0) (.tmp 1)) 205 [v44_37, (l_40.getD 2 undef)] (fun v47_42 w =>
 oM Tryz.prog (.binOp .shr 205 (.tmp 0) (.tmp 1) 176) 205 [v47_42, (.int .u64 24)] (fun v50_43 w =>
 oM Tryz.prog (.convert 205 5 (.tmp 0)) 5 [v50_43] (fun v51_44 w =>
 oM Tryz.prog (.binOp .shr 205 (.tmp 0) (.tmp 1) 176) 205 [v47_42, (.int .u64 16)] (fun v53_45 w =>
 oM Tryz.prog (.convert 205 5 (.tmp 0)) 5 [v53_45] (fun v54_46 w =>
 oM Tryz.prog (.binOp .shr 205 (.tmp 0) (.tmp 1) 176) 205 [v47_42, (.int .u64 8)] (fun v56_47 w =>
 oM Tryz.prog (.convert 205 5 (.tmp 0)) 5 [v56_47] (fun v57_48 w =>
 oM Tryz.prog (.convert 205 5 (.tmp 0)) 5 [v47_42] (fun v59_49 w =>
 oM Tryz.prog (.buildSlice 189 4 #[(0, (.tmp 0)), (1, (.tmp 1)), (2, (.tmp 2)), (3, (.tmp 3))]) 189 [v51_44, v54_46, v57_48, v59_49] (fun v60_50 w =>
 oM Tryz.prog (.call (Go.Call.mk (.builtin .append) #[(.tmp 0), (.tmp 1)] #[189, 189])) 189 [(l_40.getD 1 undef), v60_50] (fun v61_51 w =>
 oM Tryz.prog (.binOp .add 3 (.tmp 0) (.tmp 1) 3) 3 [(l_40.getD 2 undef), (.int .i64 1)] (fun v62_52 w =>
 J_38 [v47_42, v61_51, v62_52] w ∧ m_39 [v47_42, v61_51, v62_52] w < m_39 l_40 w0_l_40) w) w) w) w) w) w) w) w) w) w) w)
 (oM Tryz.prog (.convert 189 9 (.tmp 0)) 9 [(l_40.getD 1 undef)] (fun v64_53 w =>
 K v64_53 w) w)) w)) w0_l_40)) w)) w) w)) w0_l_28)) w) w) w)) w)) w0_l_14))) w) w) w)) w0_l_6)) w) w) w
theorem sh_171_eq (a0 : Value) (K : Value → World → Prop) (w : World) : sh_171 a0 K w = code Tryz.prog (fun _ => 3) 65 (Tryz.f171.body.getD .skip) (slotsAt [a0]) (retK Tryz.prog [.tmp 2] K) w := by kernel_rfl
theorem sh_171_ok {a0 : Value} {K : Value → World → Prop} {w : World} (h : sh_171 a0 K w) : callM Tryz.prog 171 #[a0] K w :=
  calls_of_code (fun _ => 3) (fn := Tryz.f171) (rs := [.tmp 2]) Tryz.func171 rfl rfl (by kernel_rfl) (Nat.le_of_ble_eq_true rfl) ((sh_171_eq a0 K w).mp h)
def sh_195 (K : Value → World → Prop) (w : World) : Prop :=
 oM Tryz.prog (.alloc 207) 0 [] (fun v0_1 w =>
 oM Tryz.prog (.build 207 #[(0, (.tmp 0)), (1, (.tmp 1)), (2, (.tmp 2)), (3, (.tmp 3)), (4, (.tmp 4)), (5, (.tmp 5)), (6, (.tmp 6)), (7, (.tmp 7))]) 207 [(.int .u32 1779033703), (.int .u32 3144134277), (.int .u32 1013904242), (.int .u32 2773480762), (.int .u32 1359893119), (.int .u32 2600822924), (.int .u32 528734635), (.int .u32 1541459225)] (fun v1_2 w =>
 oM Tryz.prog (.store 207 (.tmp 0) (.tmp 1)) 0 [v0_1, v1_2] (fun _ w =>
 ∃ r_3, (do loadVar 207 (← asAddr v0_1) : Sem Value).run Tryz.prog w = .ok r_3 w ∧ K r_3 w) w) w) w
theorem sh_195_eq (K : Value → World → Prop) (w : World) : sh_195 K w = code Tryz.prog (fun _ => 0) 2 (Tryz.f195.body.getD .skip) (slotsAt []) (retK Tryz.prog [.cell 0 207] K) w := by kernel_rfl
theorem sh_195_ok {K : Value → World → Prop} {w : World} (h : sh_195 K w) : callM Tryz.prog 195 #[] K w :=
  calls_of_code (fun _ => 0) (fn := Tryz.f195) (rs := [.cell 0 207]) Tryz.func195 rfl rfl (by kernel_rfl) (Nat.le_of_ble_eq_true rfl) ((sh_195_eq K w).mp h)
def sh_196 (a0 : Value) (a1 : Value) (K : Value → World → Prop) (w : World) : Prop :=
 oM Tryz.prog (.box 207 (.tmp 0)) 0 [a0] (fun v2_1 w =>
 oM Tryz.prog (.alloc 207) 0 [] (fun v4_2 w =>
 callM Tryz.prog 215 #[a1] (fun v15_3 w =>
 callM Tryz.prog 216 #[] (fun v16_4 w =>
 oM Tryz.prog (.alloc 224) 0 [] (fun v5_5 w =>
 oM Tryz.prog (.alloc 224) 0 [] (fun v6_6 w =>
 oM Tryz.prog (.store 224 (.tmp 0) (.tmp 1)) 0 [v5_5, v15_3] (fun _ w =>
 oM Tryz.prog (.store 224 (.tmp 0) (.tmp 1)) 0 [v6_6, v16_4] (fun _ w =>
 oM Tryz.prog (.load 207 (.tmp 0)) 207 [v2_1] (fun v17_7 w =>
 oM Tryz.prog (.alloc 207) 0 [] (fun v7_8 w =>
 oM Tryz.prog (.store 207 (.tmp 0) (.tmp 1)) 0 [v7_8, v17_7] (fun _ w =>
 loopM [undef, undef, undef, undef, undef, (.int .i64 0)] w (fun J_9 m_10 l_11 u_l_11 w0_l_11 => (fun w => (
 oM Tryz.prog (.binOp .lss 3 (.tmp 0) (.tmp 1) 3) 0 [(l_11.getD 5 undef), (.int .i64 64)] (fun v19_12 w =>
 condM v19_12
 (quietM w (fun C_13 => (oQ Tryz.prog (.indexAddr 207 (.tmp 0) (.tmp 1)) 0 [v7_8, (.int .i64 4)] C_13 (fun v21_14 =>
 oQ Tryz.prog (.load 205 (.tmp 0)) 205 [v21_14] C_13 (fun v22_15 =>
 callQ Tryz.prog 217 #[v22_15, (.int .i64 (-6))] C_13 (fun v23_16 =>
 oQ Tryz.prog (.indexAddr 207 (.tmp 0) (.tmp 1)) 0 [v7_8, (.int .i64 4)] C_13 (fun v24_17 =>
 oQ Tryz.prog (.load 205 (.tmp 0)) 205 [v24_17] C_13 (fun v25_18 =>
 callQ Tryz.prog 217 #[v25_18, (.int .i64 (-11))] C_13 (fun v26_19 =>
 oQ Tryz.prog (.binOp .xor 205 (.tmp 0) (.tmp 1) 205) 205 [v23_16, v26_19] C_13 (fun v27_20 =>
 oQ Tryz.prog (.indexAddr 207 (.tmp 0) (.tmp 1)) 0 [v7_8, (.int .i64 4)] C_13 (fun v28_21 =>
 oQ Tryz.prog (.load 205 (.tmp 0)) 205 [v28_21] C_13 (fun v29_22 =>
 callQ Tryz.prog 217 #[v29_22, (.int .i64 (-25))] C_13 (fun v30_23 =>
 oQ Tryz.prog (.binOp .xor 205 (.tmp 0) (.tmp 1) 205) 205 [v27_20, v30_23] C_13 (fun v31_24 =>
 ∀ w, C_13 w → (quietM w (fun C_25 => (oQ Tryz.prog (.indexAddr 207 (.tmp 0) (.tmp 1)) 0 [v7_8, (.int .i64 7)] C_25 (fun v32_26 =>
 oQ Tryz.prog (.load 205 (.tmp 0)) 205 [v32_26] C_25 (fun v33_27 =>
 oQ Tryz.prog (.binOp .add 205 (.tmp 0) (.tmp 1) 205) 205 [v33_27, v31_24] C_25 (fun v35_28 =>
 oQ Tryz.prog (.indexAddr 207 (.tmp 0) (.tmp 1)) 0 [v7_8, (.int .i64 6)] C_25 (fun v36_29 =>
 oQ Tryz.prog (.load 205 (.tmp 0)) 205 [v36_29] C_25 (fun v37_30 =>
 oQ Tryz.prog (.indexAddr 207 (.tmp 0) (.tmp 1)) 0 [v7_8, (.int .i64 4)] C_25 (fun v38_31 =>
 oQ Tryz.prog (.load 205 (.tmp 0)) 205 [v38_31] C_25 (fun v39_32 =>
 oQ Tryz.prog (.indexAddr 207 (.tmp 0) (.tmp 1)) 0 [v7_8, (.int .i64 5)] C_25 (fun v40_33 =>
 oQ Tryz.prog (.load 205 (.tmp 0)) 205 [v40_33] C_25 (fun v41_34 =>
 oQ Tryz.prog (.indexAddr 207 (.tmp 0) (.tmp 1)) 0 [v7_8, (.int .i64 6)] C_25 (fun v42_35 =>
 oQ Tryz.prog (.load 205 (.tmp 0)) 205 [v42_35] C_25 (fun v43_36 =>
 oQ Tryz.prog (.binOp .xor 205 (.tmp 0) (.tmp 1) 205) 205 [v41_34, v43_36] C_25 (fun v44_37 =>
 oQ Tryz.prog (.binOp .and 205 (.tmp 0) (.tmp 1) 205) 205 [v39_32, v44_37] C_25 (fun v45_38 =>
 oQ Tryz.prog (.binOp .xor 205 (.tmp 0) (.tmp 1) 205) 205 [v37_30, v45_38] C_25 (fun v46_39 =>
 oQ Tryz.prog (.binOp .add 205 (.tmp 0) (.tmp 1) 205) 205 [v35_28, v46_39] C_25 (fun v47_40 =>
 oQ Tryz.prog (.indexAddr 224 (.tmp 0) (.tmp 1)) 0 [v6_6, (l_11.getD 5 undef)] C_25 (fun v49_41 =>
 oQ Tryz.prog (.load 205 (.tmp 0)) 205 [v49_41] C_25 (fun v50_42 =>
 oQ Tryz.prog (.binOp .add 205 (.tmp 0) (.tmp 1) 205) 205 [v47_40, v50_42] C_25 (fun v51_43 =>
 oQ Tryz.prog (.indexAddr 224 (.tmp 0) (.tmp 1)) 0 [v5_5, (l_11.getD 5 undef)] C_25 (fun v53_44 =>
 oQ Tryz.prog (.load 205 (.tmp 0)) 205 [v53_44] C_25 (fun v54_45 =>
 oQ Tryz.prog (.binOp .add 205 (.tmp 0) (.tmp 1) 205) 205 [v51_43, v54_45] C_25 (fun v55_46 =>
 ∀ w, C_25 w → (quietM w (fun C_47 => (oQ Tryz.prog (.indexAddr 207 (.tmp 0) (.tmp 1)) 0 [v7_8, (.int .i64 0)] C_47 (fun v56_48 =>
 oQ Tryz.prog (.load 205 (.tmp 0)) 205 [v56_48] C_47 (fun v57_49 =>
 callQ Tryz.prog 217 #[v57_49, (.int .i64 (-2))] C_47 (fun v58_50 =>
 oQ Tryz.prog (.indexAddr 207 (.tmp 0) (.tmp 1)) 0 [v7_8, (.int .i64 0)] C_47 (fun v59_51 =>
 oQ Tryz.prog (.load 205 (.tmp 0)) 205 [v59_51] C_47 (fun v60_52 =>
 callQ Tryz.prog 217 #[v60_52, (.int .i64 (-13))] C_47 (fun v61_53 =>
 oQ Tryz.prog (.binOp .xor 205 (.tmp 0) (.tmp 1) 205) 205 [v58_50, v61_53] C_47 (fun v62_54 =>
 oQ Tryz.prog (.indexAddr 207 (.tmp 0) (.tmp 1)) 0 [v7_8, (.int .i64 0)] C_47 (fun v63_55 =>
 oQ Tryz.prog (.load 205 (.tmp 0)) 205 [v63_55] C_47 (fun v64_56 =>
 callQ Tryz.prog 217 #[v64_56, (.int .i64 (-22))] C_47 (fun v65_57 =>
 oQ Tryz.prog (.binOp .xor 205 (.tmp 0) (.tmp 1) 205) 205 [v62_54, v65_57] C_47 (fun v66_58 =>
 ∀ w, C_47 w → (oM Tryz.prog (.indexAddr 207 (.tmp 0) (.tmp 1)) 0 [v7_8, (.int .i64 0)] (fun v67_59 w =>
 oM Tryz.prog (.load 205 (.tmp 0)) 205 [v67_59] (fun v68_60 w =>
 oM Tryz.prog (.indexAddr 207 (.tmp 0) (.tmp 1)) 0 [v7_8, (.int .i64 1)] (fun v69_61 w =>
 oM Tryz.prog (.load 205 (.tmp 0)) 205 [v69_61] (fun v70_62 w =>
 oM Tryz.prog (.binOp .and 205 (.tmp 0) (.tmp 1) 205) 205 [v68_60, v70_62] (fun v71_63 w =>
 oM Tryz.prog (.indexAddr 207 (.tmp 0) (.tmp 1)) 0 [v7_8, (.int .i64 2)] (fun v72_64 w =>
 oM Tryz.prog (.load 205 (.tmp 0)) 205 [v72_64] (fun v73_65 w =>
 oM Tryz.prog (.indexAddr 207 (.tmp 0) (.tmp 1)) 0 [v7_8, (.int .i64 0)] (fun v74_66 w =>
 oM Tryz.prog (.load 205 (.tmp 0)) 205 [v74_66] (fun v75_67 w =>
 oM Tryz.prog (.indexAddr 207 (.tmp 0) (.tmp 1)) 0 [v7_8, (.int .i64 1)] (fun v76_68 w =>
 oM Tryz.prog (.load 205 (.tmp 0)) 205 [v76_68] (fun v77_69 w =>
 oM Tryz.prog (.binOp .or 205 (.tmp 0) (.tmp 1) 205) 205 [v75_67, v77_69] (fun v78_70 w =>
 oM Tryz.prog (.binOp .and 205 (.tmp 0) (.tmp 1) 205) 205 [v73_65, v78_70] (fun v79_71 w =>
 oM Tryz.prog (.binOp .or 205 (.tmp 0) (.tmp 1) 205) 205 [v71_63, v79_71] (fun v80_72 w =>
 oM Tryz.prog (.binOp .add 205 (.tmp 0) (.tmp 1) 205) 205 [v55_46, v66_58] (fun v83_73 w =>
 oM Tryz.prog (.binOp .add 205 (.tmp 0) (.tmp 1) 205) 205 [v83_73, v80_72] (fun v85_74 w =>
 oM Tryz.prog (.indexAddr 207 (.tmp 0) (.tmp 1)) 0 [v7_8, (.int .i64 0)] (fun v86_75 w =>
 oM Tryz.prog (.load 205 (.tmp 0)) 205 [v86_75] (fun v87_76 w =>
 oM Tryz.prog (.indexAddr 207 (.tmp 0) (.tmp 1)) 0 [v7_8, (.int .i64 1)] (fun v88_77 w =>
 oM Tryz.prog (.load 205 (.tmp 0)) 205 [v88_77] (fun v89_78 w =>
 oM Tryz.prog (.indexAddr 207 (.tmp 0) (.tmp 1)) 0 [v7_8, (.int .i64 2)] (fun v90_79 w =>
 oM Tryz.prog (.load 205 (.tmp 0)) 205 [v90_79] (fun v91_80 w =>
 oM Tryz.prog (.indexAddr 207 (.tmp 0) (.tmp 1)) 0 [v7_8, (.int .i64 3)] (fun v92_81 w =>
 oM Tryz.prog (.load 205 (.tmp 0)) 205 [v92_81] (fun v93_82 w =>
 oM Tryz.prog (.binOp .add 205 (.tmp 0) (.tmp 1) 205) 205 [v93_82, v55_46] (fun v95_83 w =>
 oM Tryz.prog (.indexAddr 207 (.tmp 0) (.tmp 1)) 0 [v7_8, (.int .i64 4)] (fun v96_84 w =>
 oM Tryz.prog (.load 205 (.tmp 0)) 205 [v96_84] (fun v97_85 w =>
 oM Tryz.prog (.indexAddr 207 (.tmp 0) (.tmp 1)) 0 [v7_8, (.int .i64 5)] (fun v98_86 w =>
 oM Tryz.prog (.load 205 (.tmp 0)) 205 [v98_86] (fun v99_87 w =>
 oM Tryz.prog (.indexAddr 207 (.tmp 0) (.tmp 1)) 0 [v7_8, (.int .i64 6)] (fun v100_88 w =>
 oM Tryz.prog (.load 205 (.tmp 0)) 205 [v100_88] (fun v101_89 w =>
 oM Tryz.prog (.build 207 #[(0, (.tmp 0)), (1, (.tmp 1)), (2, (.tmp 2)), (3, (.tmp 3)), (4, (.tmp 4)), (5, (.tmp 5)), (6, (.tmp 6)), (7, (.tmp 7))]) 207 [v85_74, v87_76, v89_78, v91_80, v95_83, v97_85, v99_87, v101_89] (fun v102_90 w =>
 oM Tryz.prog (.store 207 (.tmp 0) (.tmp 1)) 0 [v7_8, v102_90] (fun _ w =>
 oM Tryz.prog (.binOp .add 3 (.tmp 0) (.tmp 1) 3) 3 [(l_11.getD 5 undef), (.int .i64 1)] (fun v103_91 w =>
 J_9 [(l_11.getD 5 undef), v31_24, v55_46, v66_58, v80_72, v103_91] w ∧ m_10 [(l_11.getD 5 undef), v31_24, v55_46, v66_58, v80_72, v103_91] w < m_10 l_11 w0_l_11) w) w) w) w) w) w) w) w) w) w) w) w) w) w) w) w) w) w) w) w) w) w) w) w) w) w) w) w) w) w) w) w) w) w)))))))))))))))))))))))))))))))))))))))))))))))))))))
 (loopM [undef, (.int .i64 0)] w (fun J_92 m_93 l_94 u_l_94 w0_l_94 => (fun w => (
 oM Tryz.prog (.binOp .lss 3 (.tmp 0) (.tmp 1) 3) 0 [(l_94.getD 1 undef), (.int .i64 8)] (fun v105_95 w =>
 condM v105_95
 (stageM w (fun C_96 w => (pureH (l_94.getD 1 undef) (upto C_96 0) (fun v107_97 =>
 oH Tryz.prog (.indexAddr 207 (.tmp 0) (.tmp 1)) 0 [v7_8, v107_97] (upto C_96 0) (fun v108_98 =>
 oH Tryz.prog (.load 205 (.tmp 0)) 205 [v108_98] (upto C_96 0) (fun v109_99 =>
 pureH (l_94.getD 1 undef) (upto C_96 0) (fun v110_100 =>
 oH Tryz.prog (.indexAddr 207 (.tmp 0) (.tmp 1)) 0 [v2_1, v110_100] (upto C_96 0) (fun v111_101 =>
 oH Tryz.prog (.load 205 (.tmp 0)) 205 [v111_101] (upto C_96 0) (fun v112_102 =>
 oH Tryz.prog (.binOp .add 205 (.tmp 0) (.tmp 1) 205) 205 [v109_99, v112_102] (upto C_96 0) (fun v113_103 =>
 oH Tryz.prog (.indexAddr 207 (.tmp 0) (.tmp 1)) 0 [v7_8, v107_97] (upto C_96 0) (fun v114_104 =>
 oM Tryz.prog (.store 205 (.tmp 0) (.tmp 1)) 0 [v114_104, v113_103] (fun _ w => C_96 1 w ∧ (
 oM Tryz.prog (.binOp .add 3 (.tmp 0) (.tmp 1) 3) 3 [(l_94.getD 1 undef), (.int .i64 1)] (fun v115_105 w =>
 J_92 [(l_94.getD 1 undef), v115_105] w ∧ m_93 [(l_94.getD 1 undef), v115_105] w < m_93 l_94 w0_l_94) w)) w)))))))))))
 (oM Tryz.prog (.load 207 (.tmp 0)) 207 [v7_8] (fun v116_106 w =>
 oM Tryz.prog (.store 207 (.tmp 0) (.tmp 1)) 0 [v4_2, v116_106] (fun _ w =>
 ∃ r_107, (do loadVar 207 (← asAddr v4_2) : Sem Value).run Tryz.prog w = .ok r_107 w ∧ K r_107 w) w) w)) w)) w0_l_94))) w)) w0_l_11)) w) w) w) w) w) w) w) w) w) w) w
theorem sh_196_eq (a0 : Value) (a1 : Value) (K : Value → World → Prop) (w : World) : sh_196 a0 a1 K w = code Tryz.prog (fun i => bif Nat.beq i 15 then 3 else 0) 117 (Tryz.f196.body.getD .skip) (slotsAt [a0, a1]) (retK Tryz.prog [.cell 4 207] K) w := by kernel_rfl
theorem sh_196_ok {a0 a1 : Value} {K : Value → World → Prop} {w : World} (h : sh_196 a0 a1 K w) : callM Tryz.prog 196 #[a0, a1] K w :=
  calls_of_code (fun i => bif Nat.beq i 15 then 3 else 0) (fn := Tryz.f196) (rs := [.cell 4 207]) Tryz.func196 rfl rfl (by kernel_rfl) (Nat.le_of_ble_eq_true rfl) ((sh_196_eq a0 a1 K w).mp h)
def sh_215 (a0 : Value) (K : Value → World → Prop) (w : World) : Prop :=
 oM Tryz.prog (.alloc 224) 0 [] (fun v2_1 w =>
 loopM [undef, undef, undef, undef, undef, (.int .i64 0)] w (fun J_2 m_3 l_4 u_l_4 w0_l_4 => (fun w => (
 oM Tryz.prog (.binOp .lss 3 (.tmp 0) (.tmp 1) 3) 0 [(l_4.getD 5 undef), (.int .i64 64)] (fun v9_5 w =>
 condM v9_5
 (joinM (fun M_6 => (oM Tryz.prog (.binOp .lss 3 (.tmp 0) (.tmp 1) 3) 4 [(l_4.getD 5 undef), (.int .i64 16)] (fun v12_8 w =>
 condM v12_8
 (heldM w (fun C_9 w => (pureH (l_4.getD 5 undef) C_9 (fun v13_10 =>
 pureH a0 C_9 (fun v14_11 =>
 pureH (l_4.getD 5 undef) C_9 (fun v15_12 =>
 oH Tryz.prog (.binOp .mul 3 (.tmp 0) (.tmp 1) 3) 3 [(.int .i64 4), v15_12] C_9 (fun v16_13 =>
 oH Tryz.prog (.indexAddr 189 (.tmp 0) (.tmp 1)) 0 [v14_11, v16_13] C_9 (fun v17_14 =>
 oH Tryz.prog (.load 5 (.tmp 0)) 5 [v17_14] C_9 (fun v18_15 =>
 oH Tryz.prog (.convert 5 205 (.tmp 0)) 205 [v18_15] C_9 (fun v19_16 =>
 oH Tryz.prog (.binOp .shl 205 (.tmp 0) (.tmp 1) 176) 205 [v19_16, (.int .u64 24)] C_9 (fun v20_17 =>
 pureH a0 C_9 (fun v21_18 =>
 pureH (l_4.getD 5 undef) C_9 (fun v22_19 =>
 oH Tryz.prog (.binOp .mul 3 (.tmp 0) (.tmp 1) 3) 3 [(.int .i64 4), v22_19] C_9 (fun v23_20 =>
 oH Tryz.prog (.binOp .add 3 (.tmp 0) (.tmp 1) 3) 3 [v23_20, (.int .i64 1)] C_9 (fun v24_21 =>
 oH Tryz.prog (.indexAddr 189 (.tmp 0) (.tmp 1)) 0 [v21_18, v24_21] C_9 (fun v25_22 =>
 oH Tryz.prog (.load 5 (.tmp 0)) 5 [v25_22] C_9 (fun v26_23 =>
 oH Tryz.prog (.convert 5 205 (.tmp 0)) 205 [v26_23] C_9 (fun v27_24 =>
 oH Tryz.prog (.binOp .shl 205 (.tmp 0) (.tmp 1) 176) 205 [v27_24, (.int .u64 16)] C_9 (fun v28_25 =>
 oH Tryz.prog (.binOp .or 205 (.tmp 0) (.tmp 1) 205) 205 [v20_17, v28_25] C_9 (fun v29_26 =>
 pureH a0 C_9 (fun v30_27 =>
 pureH (l_4.getD 5 undef) C_9 (fun v31_28 =>
 oH Tryz.prog (.binOp .mul 3 (.tmp 0) (.tmp 1) 3) 3 [(.int .i64 4), v31_28] C_9 (fun v32_29 =>
 oH Tryz.prog (.binOp .add 3 (.tmp 0) (.tmp 1) 3) 3 [v32_29, (.int .i64 2)] C_9 (fun v33_30 =>
 oH Tryz.prog (.indexAddr 189 (.tmp 0) (.tmp 1)) 0 [v30_27, v33_30] C_9 (fun v34_31 =>
 oH Tryz.prog (.load 5 (.tmp 0)) 5 [v34_31] C_9 (fun v35_32 =>
 oH Tryz.prog (.convert 5 205 (.tmp 0)) 205 [v35_32] C_9 (fun v36_33 =>
 oH Tryz.prog (.binOp .shl 205 (.tmp 0) (.tmp 1) 176) 205 [v36_33, (.int .u64 8)] C_9 (fun v37_34 =>
 oH Tryz.prog (.binOp .or 205 (.tmp 0) (.tmp 1) 205) 205 [v29_26, v37_34] C_9 (fun v38_35 =>
 pureH a0 C_9 (fun v39_36 =>
 pureH (l_4.getD 5 undef) C_9 (fun v40_37 =>
 oH Tryz.prog (.binOp .mul 3 (.tmp 0) (.tmp 1) 3) 3 [(.int .i64 4), v40_37] C_9 (fun v41_38 =>
 oH Tryz.prog (.binOp .add 3 (.tmp 0) (.tmp 1) 3) 3 [v41_38, (.int .i64 3)] C_9 (fun v42_39 =>
 oH Tryz.prog (.indexAddr 189 (.tmp 0) (.tmp 1)) 0 [v39_36, v42_39] C_9 (fun v43_40 =>
 oH Tryz.prog (.load 5 (.tmp 0)) 5 [v43_40] C_9 (fun v44_41 =>
 oH Tryz.prog (.convert 5 205 (.tmp 0)) 205 [v44_41] C_9 (fun v45_42 =>
 oH Tryz.prog (.binOp .or 205 (.tmp 0) (.tmp 1) 205) 205 [v38_35, v45_42] C_9 (fun v46_43 =>
 oH Tryz.prog (.indexAddr 224 (.tmp 0) (.tmp 1)) 0 [v2_1, v13_10] C_9 (fun v47_44 =>
 oM Tryz.prog (.store 205 (.tmp 0) (.tmp 1)) 0 [v47_44, v46_43] (fun _ w => C_9 w ∧ (
 M_6 [(l_4.getD 5 undef), (l_4.getD 1 undef), (l_4.getD 2 undef), (l_4.getD 3 undef), (l_4.getD 4 undef)] w)) w))))))))))))))))))))))))))))))))))))))
 (quietM w (fun C_45 => (oQ Tryz.prog (.binOp .sub 3 (.tmp 0) (.tmp 1) 3) 3 [(l_4.getD 5 undef), (.int .i64 15)] C_45 (fun v49_46 =>
 oQ Tryz.prog (.indexAddr 224 (.tmp 0) (.tmp 1)) 0 [v2_1, v49_46] C_45 (fun v50_47 =>
 oQ Tryz.prog (.load 205 (.tmp 0)) 205 [v50_47] C_45 (fun v51_48 =>
 oQ Tryz.prog (.binOp .sub 3 (.tmp 0) (.tmp 1) 3) 3 [(l_4.getD 5 undef), (.int .i64 2)] C_45 (fun v53_49 =>
 oQ Tryz.prog (.indexAddr 224 (.tmp 0) (.tmp 1)) 0 [v2_1, v53_49] C_45 (fun v54_50 =>
 oQ Tryz.prog (.load 205 (.tmp 0)) 205 [v54_50] C_45 (fun v55_51 =>
 ∀ w, C_45 w → (callM Tryz.prog 217 #[v51_48, (.int .i64 (-7))] (fun v57_52 w =>
 callM Tryz.prog 217 #[v51_48, (.int .i64 (-18))] (fun v59_53 w =>
 oM Tryz.prog (.binOp .xor 205 (.tmp 0) (.tmp 1) 205) 205 [v57_52, v59_53] (fun v60_54 w =>
 oM Tryz.prog (.binOp .shr 205 (.tmp 0) (.tmp 1) 176) 205 [v51_48, (.int .u64 3)] (fun v62_55 w =>
 oM Tryz.prog (.binOp .xor 205 (.tmp 0) (.tmp 1) 205) 205 [v60_54, v62_55] (fun v63_56 w =>
 callM Tryz.prog 217 #[v55_51, (.int .i64 (-17))] (fun v65_57 w =>
 callM Tryz.prog 217 #[v55_51, (.int .i64 (-19))] (fun v67_58 w =>
 oM Tryz.prog (.binOp .xor 205 (.tmp 0) (.tmp 1) 205) 205 [v65_57, v67_58] (fun v68_59 w =>
 oM Tryz.prog (.binOp .shr 205 (.tmp 0) (.tmp 1) 176) 205 [v55_51, (.int .u64 10)] (fun v70_60 w =>
 oM Tryz.prog (.binOp .xor 205 (.tmp 0) (.tmp 1) 205) 205 [v68_59, v70_60] (fun v71_61 w =>
 heldM w (fun C_62 w => (pureH (l_4.getD 5 undef) C_62 (fun v72_63 =>
 pureH (l_4.getD 5 undef) C_62 (fun v73_64 =>
 oH Tryz.prog (.binOp .sub 3 (.tmp 0) (.tmp 1) 3) 3 [v73_64, (.int .i64 16)] C_62 (fun v74_65 =>
 oH Tryz.prog (.indexAddr 224 (.tmp 0) (.tmp 1)) 0 [v2_1, v74_65] C_62 (fun v75_66 =>
 oH Tryz.prog (.load 205 (.tmp 0)) 205 [v75_66] C_62 (fun v76_67 =>
 pureH v63_56 C_62 (fun v77_68 =>
 oH Tryz.prog (.binOp .add 205 (.tmp 0) (.tmp 1) 205) 205 [v76_67, v77_68] C_62 (fun v78_69 =>
 pureH (l_4.getD 5 undef) C_62 (fun v79_70 =>
 oH Tryz.prog (.binOp .sub 3 (.tmp 0) (.tmp 1) 3) 3 [v79_70, (.int .i64 7)] C_62 (fun v80_71 =>
 oH Tryz.prog (.indexAddr 224 (.tmp 0) (.tmp 1)) 0 [v2_1, v80_71] C_62 (fun v81_72 =>
 oH Tryz.prog (.load 205 (.tmp 0)) 205 [v81_72] C_62 (fun v82_73 =>
 oH Tryz.prog (.binOp .add 205 (.tmp 0) (.tmp 1) 205) 205 [v78_69, v82_73] C_62 (fun v83_74 =>
 pureH v71_61 C_62 (fun v84_75 =>
 oH Tryz.prog (.binOp .add 205 (.tmp 0) (.tmp 1) 205) 205 [v83_74, v84_75] C_62 (fun v85_76 =>
 oH Tryz.prog (.indexAddr 224 (.tmp 0) (.tmp 1)) 0 [v2_1, v72_63] C_62 (fun v86_77 =>
 oM Tryz.prog (.store 205 (.tmp 0) (.tmp 1)) 0 [v86_77, v85_76] (fun _ w => C_62 w ∧ (
 M_6 [(l_4.getD 5 undef), v51_48, v55_51, v63_56, v71_61] w)) w)))))))))))))))))) w) w) w) w) w) w) w) w) w) w))))))))))) w))
 (fun l_7 u_l_7 w => (oM Tryz.prog (.binOp .add 3 (.tmp 0) (.tmp 1) 3) 3 [(l_4.getD 5 undef), (.int .i64 1)] (fun v87_78 w =>
 J_2 [(l_7.getD 0 undef), (l_7.getD 1 undef), (l_7.getD 2 undef), (l_7.getD 3 undef), (l_7.getD 4 undef), v87_78] w ∧ m_3 [(l_7.getD 0 undef), (l_7.getD 1 undef), (l_7.getD 2 undef), (l_7.getD 3 undef), (l_7.getD 4 undef), v87_78] w < m_3 l_4 w0_l_4) w)))
 (oM Tryz.prog (.load 224 (.tmp 0)) 224 [v2_1] (fun v88_79 w =>
 oM Tryz.prog (.store 224 (.tmp 0) (.tmp 1)) 0 [v2_1, v88_79] (fun _ w =>
 ∃ r_80, (do loadVar 224 (← asAddr v2_1) : Sem Value).run Tryz.prog w = .ok r_80 w ∧ K r_80 w) w) w)) w)) w0_l_4)) w
theorem sh_215_eq (a0 : Value) (K : Value → World → Prop) (w : World) : sh_215 a0 K w = code Tryz.prog (fun i => bif Nat.beq i 5 then .tree (.look 0 (.look 1 (.look 2 (.look 3 (.look 4 (.look 5 (.look 6 (.look 7 (.look 8 (.look 9 (.look 10 (.look 11 (.look 12 (.look 13 (.look 14 (.look 15 (.look 16 (.look 17 (.look 18 (.look 19 (.look 20 (.look 21 (.look 22 (.look 23 (.look 24 (.look 25 (.look 26 (.look 27 (.look 28 (.look 29 (.look 30 (.look 31 (.look 32 (.look 33 (.look 34 (.only 35 (.done))))))))))))))))))))))))))))))))))))) else bif Nat.beq i 9 then 2 else 0) 89 (Tryz.f215.body.getD .skip) (slotsAt [a0]) (retK Tryz.prog [.cell 2 224] K) w := by kernel_rfl
theorem sh_215_ok {a0 : Value} {K : Value → World → Prop} {w : World} (h : sh_215 a0 K w) : callM Tryz.prog 215 #[a0] K w :=
  calls_of_code (fun i => bif Nat.beq i 5 then .tree (.look 0 (.look 1 (.look 2 (.look 3 (.look 4 (.look 5 (.look 6 (.look 7 (.look 8 (.look 9 (.look 10 (.look 11 (.look 12 (.look 13 (.look 14 (.look 15 (.look 16 (.look 17 (.look 18 (.look 19 (.look 20 (.look 21 (.look 22 (.look 23 (.look 24 (.look 25 (.look 26 (.look 27 (.look 28 (.look 29 (.look 30 (.look 31 (.look 32 (.look 33 (.look 34 (.only 35 (.done))))))))))))))))))))))))))))))))))))) else bif Nat.beq i 9 then 2 else 0) (fn := Tryz.f215) (rs := [.cell 2 224]) Tryz.func215 rfl rfl (by kernel_rfl) (Nat.le_of_ble_eq_true rfl) ((sh_215_eq a0 K w).mp h)
def sh_216 (K : Value → World → Prop) (w : World) : Prop :=
 oM Tryz.prog (.alloc 224) 0 [] (fun v0_1 w =>
 oM Tryz.prog (.build 224 #[(0, (.tmp 0)), (1, (.tmp 1)), (2, (.tmp 2)), (3, (.tmp 3)), (4, (.tmp 4)), (5, (.tmp 5)), (6, (.tmp 6)), (7, (.tmp 7)), (8, (.tmp 8)), (9, (.tmp 9)), (10, (.tmp 10)), (11, (.tmp 11)), (12, (.tmp 12)), (13, (.tmp 13)), (14, (.tmp 14)), (15, (.tmp 15)), (16, (.tmp 16)), (17, (.tmp 17)), (18, (.tmp 18)), (19, (.tmp 19)), (20, (.tmp 20)), (21, (.tmp 21)), (22, (.tmp 22)), (23, (.tmp 23)), (24, (.tmp 24)), (25, (.tmp 25)), (26, (.tmp 26)), (27, (.tmp 27)), (28, (.tmp 28)), (29, (.tmp 29)), (30, (.tmp 30)), (31, (.tmp 31)), (32, (.tmp 32)), (33, (.tmp 33)), (34, (.tmp 34)), (35, (.tmp 35)), (36, (.tmp 36)), (37, (.tmp 37)), (38, (.tmp 38)), (39, (.tmp 39)), (40, (.tmp 40)), (41, (.tmp 41)), (42, (.tmp 42)), (43, (.tmp 43)), (44, (.tmp 44)), (45, (.tmp 45)), (46, (.tmp 46)), (47, (.tmp 47)), (48, (.tmp 48)), (49, (.tmp 49)), (50, (.tmp 50)), (51, (.tmp 51)), (52, (.tmp 52)), (53, (.tmp 53)), (54, (.tmp 54)), (55, (.tmp 55)), (56, (.tmp 56)), (57, (.tmp 57)), (58, (.tmp 58)), (59, (.tmp 59)), (60, (.tmp 60)), (61, (.tmp 61)), (62, (.tmp 62)), (63, (.tmp 63))]) 224 [(.int .u32 1116352408), (.int .u32 1899447441), (.int .u32 3049323471), (.int .u32 3921009573), (.int .u32 961987163), (.int .u32 1508970993), (.int .u32 2453635748), (.int .u32 2870763221), (.int .u32 3624381080), (.int .u32 310598401), (.int .u32 607225278), (.int .u32 1426881987), (.int .u32 1925078388), (.int .u32 2162078206), (.int .u32 2614888103), (.int .u32 3248222580), (.int .u32 3835390401), (.int .u32 4022224774), (.int .u32 264347078), (.int .u32 604807628), (.int .u32 770255983), (.int .u32 1249150122), (.int .u32 1555081692), (.int .u32 1996064986), (.int .u32 2554220882), (.int .u32 2821834349), (.int .u32 2952996808), (.int .u32 3210313671), (.int .u32 3336571891), (.int .u32 3584528711), (.int .u32 113926993), (.int .u32 338241895), (.int .u32 666307205), (.int .u32 773529912), (.int .u32 1294757372), (.int .u32 1396182291), (.int .u32 1695183700), (.int .u32 1986661051), (.int .u32 2177026350), (.int .u32 2456956037), (.int .u32 2730485921), (.int .u32 2820302411), (.int .u32 3259730800), (.int .u32 3345764771), (.int .u32 3516065817), (.int .u32 3600352804), (.int .u32 4094571909), (.int .u32 275423344), (.int .u32 430227734), (.int .u32 506948616), (.int .u32 659060556), (.int .u32 883997877), (.int .u32 958139571), (.int .u32 1322822218), (.int .u32 1537002063), (.int .u32 1747873779), (.int .u32 1955562222), (.int .u32 2024104815), (.int .u32 2227730452), (.int .u32 2361852424), (.int .u32 2428436474), (.int .u32 2756734187), (.int .u32 3204031479), (.int .u32 3329325298)] (fun v1_2 w =>
 oM Tryz.prog (.store 224 (.tmp 0) (.tmp 1)) 0 [v0_1, v1_2] (fun _ w =>
 ∃ r_3, (do loadVar 224 (← asAddr v0_1) : Sem Value).run Tryz.prog w = .ok r_3 w ∧ K r_3 w) w) w) w
theorem sh_216_eq (K : Value → World → Prop) (w : World) : sh_216 K w = code Tryz.prog (fun _ => 0) 2 (Tryz.f216.body.getD .skip) (slotsAt []) (retK Tryz.prog [.cell 0 224] K) w := by kernel_rfl
theorem sh_216_ok {K : Value → World → Prop} {w : World} (h : sh_216 K w) : callM Tryz.prog 216 #[] K w :=
  calls_of_code (fun _ => 0) (fn := Tryz.f216) (rs := [.cell 0 224]) Tryz.func216 rfl rfl (by kernel_rfl) (Nat.le_of_ble_eq_true rfl) ((sh_216_eq K w).mp h)
def sh_217 (a0 : Value) (a1 : Value) (K : Value → World → Prop) (w : World) : Prop :=
 oM Tryz.prog (.convert 3 176 (.tmp 0)) 176 [a1] (fun v7_1 w =>
 oM Tryz.prog (.binOp .and 176 (.tmp 0) (.tmp 1) 176) 176 [v7_1, (.int .u64 31)] (fun v8_2 w =>
 oM Tryz.prog (.binOp .shl 205 (.tmp 0) (.tmp 1) 176) 205 [a0, v8_2] (fun v11_3 w =>
 oM Tryz.prog (.binOp .sub 176 (.tmp 0) (.tmp 1) 176) 176 [(.int .u64 32), v8_2] (fun v14_4 w =>
 oM Tryz.prog (.binOp .shr 205 (.tmp 0) (.tmp 1) 176) 205 [a0, v14_4] (fun v15_5 w =>
 oM Tryz.prog (.binOp .or 205 (.tmp 0) (.tmp 1) 205) 205 [v11_3, v15_5] (fun v16_6 w =>
 K v16_6 w) w) w) w) w) w) w
theorem sh_217_eq (a0 : Value) (a1 : Value) (K : Value → World → Prop) (w : World) : sh_217 a0 a1 K w = code Tryz.prog (fun _ => 0) 17 (Tryz.f217.body.getD .skip) (slotsAt [a0, a1]) (retK Tryz.prog [.tmp 4] K) w := by kernel_rfl
theorem sh_217_ok {a0 a1 : Value} {K : Value → World → Prop} {w : World} (h : sh_217 a0 a1 K w) : callM Tryz.prog 217 #[a0, a1] K w :=
  calls_of_code (fun _ => 0) (fn := Tryz.f217) (rs := [.tmp 4]) Tryz.func217 rfl rfl (by kernel_rfl) (Nat.le_of_ble_eq_true rfl) ((sh_217_eq a0 a1 K w).mp h)
end Go.Proofs
namespace ShaSpec
abbrev W := BitVec 32
def rotr (x : W) (k : Nat) : W := x >>> k ||| x <<< (32 - k)
theorem rotl_rotr (x : W) (k : Nat) : x <<< (32 - k) ||| x >>> k = rotr x k := BitVec.or_comm _ _
def ch (e f g : W) : W := g ^^^ (e &&& (f ^^^ g))
def maj (a b c : W) : W := (a &&& b) ||| (c &&& (a ||| b))
def w8 (b : UInt8) : W := BitVec.ofNat 32 b.toNat
def word (b : List UInt8) (k : Nat) : W := w8 (b.getD (4 * k) 0) <<< 24 ||| w8 (b.getD (4 * k + 1) 0) <<< 16 ||| w8 (b.getD (4 * k + 2) 0) <<< 8 ||| w8 (b.getD (4 * k + 3) 0)
def sig0 (x : W) : W := rotr x 7 ^^^ rotr x 18 ^^^ x >>> 3
def sig1 (y : W) : W := rotr y 17 ^^^ rotr y 19 ^^^ y >>> 10
def at' (l : List W) (k : Nat) : W := l.getD k 0
def nextW (b : List UInt8) (l : List W) (k : Nat) : W :=
  if k < 16 then word b k else at' l (k - 16) + sig0 (at' l (k - 15)) + at' l (k - 7) + sig1 (at' l (k - 2))
def sched (b : List UInt8) : Nat → List W
  | 0 => []
  | n + 1 => sched b n ++ [nextW b (sched b n) n]
theorem sched_length (b : List UInt8) (n : Nat) : (sched b n).length = n := by
  induction n with
  | zero => rfl
  | succ n ih => simp [sched, ih]
structure St where
  a : W
  b : W
  c : W
  d : W
  e : W
  f : W
  g : W
  h : W
def St.list (s : St) : List W := [s.a, s.b, s.c, s.d, s.e, s.f, s.g, s.h]
def round (s : St) (k w : W) : St :=
  let t1 := s.h + (rotr s.e 6 ^^^ rotr s.e 11 ^^^ rotr s.e 25) + ch s.e s.f s.g + k + w
  ⟨t1 + (rotr s.a 2 ^^^ rotr s.a 13 ^^^ rotr s.a 22) + maj s.a s.b s.c, s.a, s.b, s.c, s.d + t1, s.e, s.f, s.g⟩
def consts : List W := [
  0x428a2f98, 0x71374491, 0xb5c0fbcf, 0xe9b5dba5, 0x3956c25b, 0x59f111f1, 0x923f82a4, 0xab1c5ed5,
  0xd807aa98, 0x12835b01, 0x243185be, 0x550c7dc3, 0x72be5d74, 0x80deb1fe, 0x9bdc06a7, 0xc19bf174,
  0xe49b69c1, 0xefbe4786, 0x0fc19dc6, 0x240ca1cc, 0x2de92c6f, 0x4a7484aa, 0x5cb0a9dc, 0x76f988da,
  0x983e5152, 0xa831c66d, 0xb00327c8, 0xbf597fc7, 0xc6e00bf3, 0xd5a79147, 0x06ca6351, 0x14292967,
  0x27b70a85, 0x2e1b2138, 0x4d2c6dfc, 0x53380d13, 0x650a7354, 0x766a0abb, 0x81c2c92e, 0x92722c85,
  0xa2bfe8a1, 0xa81a664b, 0xc24b8b70, 0xc76c51a3, 0xd192e819, 0xd6990624, 0xf40e3585, 0x106aa070,
  0x19a4c116, 0x1e376c08, 0x2748774c, 0x34b0bcb5, 0x391c0cb3, 0x4ed8aa4a, 0x5b9cca4f, 0x682e6ff3,
  0x748f82ee, 0x78a5636f, 0x84c87814, 0x8cc70208, 0x90befffa, 0xa4506ceb, 0xbef9a3f7, 0xc67178f2]
theorem consts_length : consts.length = 64 := by decide
def rounds (b : List UInt8) (s : St) : Nat → St
  | 0 => s
  | n + 1 => round (rounds b s n) (at' consts n) (at' (sched b 64) n)
def mix (s : St) (b : List UInt8) : St :=
  let v := rounds b s 64
  ⟨v.a + s.a, v.b + s.b, v.c + s.c, v.d + s.d, v.e + s.e, v.f + s.f, v.g + s.g, v.h + s.h⟩
def first : St := ⟨0x6a09e667, 0xbb67ae85, 0x3c6ef372, 0xa54ff53a, 0x510e527f, 0x9b05688c, 0x1f83d9ab, 0x5be0cd19⟩
def lenBytes (n : Nat) : List UInt8 := [7, 6, 5, 4, 3, 2, 1, 0].map fun k => UInt8.ofNat (8 * n / 2 ^ (8 * k))
def zeros (n : Nat) : Nat := (119 - n % 64) % 64
def padded (s : List UInt8) : List UInt8 := s ++ [128] ++ List.replicate (zeros s.length) 0 ++ lenBytes s.length
theorem lenBytes_length (n : Nat) : (lenBytes n).length = 8 := rfl
theorem padded_length (s : List UInt8) : (padded s).length % 64 = 0 := by
  simp only [padded, zeros, List.length_append, List.length_replicate, lenBytes_length, List.length_singleton]
  omega
def blocks : Nat → St → List UInt8 → St
  | 0, s, _ => s
  | n + 1, s, b => blocks n (mix s (b.take 64)) (b.drop 64)
def out1 (w : W) : List UInt8 := [UInt8.ofNat (w.toNat / 16777216), UInt8.ofNat (w.toNat / 65536), UInt8.ofNat (w.toNat / 256), UInt8.ofNat w.toNat]
def sha (s : List UInt8) : List UInt8 := ((blocks ((padded s).length / 64) first (padded s)).list.map out1).flatten
theorem sha_length (s : List UInt8) : (sha s).length = 32 := by
  simp [sha, St.list, out1]
end ShaSpec
namespace Go.Sh
open Go Go.RowKit
def w32 (x : BitVec 32) : Value := .int .u32 (x.toNat : Int)
theorem w32_wrap (n : Nat) : IntKind.u32.wrap (n : Int) = ((BitVec.ofNat 32 n).toNat : Int) := by
  rw [IntKind.wrap_u32, BitVec.toNat_ofNat]; omega
theorem w32_ofInt (x : BitVec 32) : BitVec.ofInt 32 (x.toNat : Int) = x := by
  rw [BitVec.ofInt_natCast, BitVec.ofNat_toNat, BitVec.setWidth_eq]
theorem bits32_and (x y : BitVec 32) : bits .and .u32 (x.toNat : Int) (y.toNat : Int) = ((x &&& y).toNat : Int) := by
  show IntKind.u32.wrap (((BitVec.ofInt 32 (x.toNat : Int) &&& BitVec.ofInt 32 (y.toNat : Int)).toNat : Nat) : Int) = _
  rw [w32_ofInt, w32_ofInt, w32_wrap, BitVec.ofNat_toNat, BitVec.setWidth_eq]
theorem bits32_or (x y : BitVec 32) : bits .or .u32 (x.toNat : Int) (y.toNat : Int) = ((x ||| y).toNat : Int) := by
  show IntKind.u32.wrap (((BitVec.ofInt 32 (x.toNat : Int) ||| BitVec.ofInt 32 (y.toNat : Int)).toNat : Nat) : Int) = _
  rw [w32_ofInt, w32_ofInt, w32_wrap, BitVec.ofNat_toNat, BitVec.setWidth_eq]
theorem bits32_xor (x y : BitVec 32) : bits .xor .u32 (x.toNat : Int) (y.toNat : Int) = ((x ^^^ y).toNat : Int) := by
  show IntKind.u32.wrap (((BitVec.ofInt 32 (x.toNat : Int) ^^^ BitVec.ofInt 32 (y.toNat : Int)).toNat : Nat) : Int) = _
  rw [w32_ofInt, w32_ofInt, w32_wrap, BitVec.ofNat_toNat, BitVec.setWidth_eq]
section
variable {P : Program} {K : Value → World → Prop} {w : World}
theorem wadd (t t' T : TypeId) (x y : BitVec 32) : oM P (.binOp .add t (.tmp 0) (.tmp 1) t') T [w32 x, w32 y] = pureM (w32 (x + y)) := by
  have e : IntKind.u32.wrap ((x.toNat : Int) + (y.toNat : Int)) = ((x + y).toNat : Int) := by
    rw [← Int.natCast_add, w32_wrap]
    congr 1
  unfold w32
  rw [oM_add', e]
theorem wand (t t' T : TypeId) (x y : BitVec 32) : oM P (.binOp .and t (.tmp 0) (.tmp 1) t') T [w32 x, w32 y] = pureM (w32 (x &&& y)) := by
  funext K w
  unfold w32
  rw [← bits32_and]
  simp [oM, opM, xop, execOp, evalL, evE, binOp, go_sem]
theorem wor (t t' T : TypeId) (x y : BitVec 32) : oM P (.binOp .or t (.tmp 0) (.tmp 1) t') T [w32 x, w32 y] = pureM (w32 (x ||| y)) := by
  funext K w
  unfold w32
  rw [← bits32_or]
  simp [oM, opM, xop, execOp, evalL, evE, binOp, go_sem]
theorem wxor (t t' T : TypeId) (x y : BitVec 32) : oM P (.binOp .xor t (.tmp 0) (.tmp 1) t') T [w32 x, w32 y] = pureM (w32 (x ^^^ y)) := by
  funext K w
  unfold w32
  rw [← bits32_xor]
  simp [oM, opM, xop, execOp, evalL, evE, binOp, go_sem]
theorem wshr (t t' T : TypeId) (yk : IntKind) (x : BitVec 32) (n : Nat) (h : n ≤ 32) : oM P (.binOp .shr t (.tmp 0) (.tmp 1) t') T [w32 x, .int yk (n : Int)] = pureM (w32 (x >>> n)) := by
  unfold w32
  rw [oM_shr32 t t' T yk _ _ (by omega) (by omega)]
  congr 2
  rw [BitVec.toNat_ushiftRight, Nat.shiftRight_eq_div_pow, Int.toNat_natCast, Int.natCast_ediv, Int.natCast_pow]
  rfl
theorem wshl (t t' T : TypeId) (yk : IntKind) (x : BitVec 32) (n : Nat) (h : n ≤ 32) : oM P (.binOp .shl t (.tmp 0) (.tmp 1) t') T [w32 x, .int yk (n : Int)] = pureM (w32 (x <<< n)) := by
  unfold w32
  rw [oM_shl32 t t' T yk _ _ (by omega) (by omega)]
  congr 2
  rw [BitVec.toNat_shiftLeft, Nat.shiftLeft_eq, Int.toNat_natCast, Int.natCast_emod, Int.natCast_mul, Int.natCast_pow]
  rfl
end
end Go.Sh
namespace Go.Proofs
open Go Go.Sh Go.RowKit ShaSpec
set_option linter.unusedSimpArgs false
set_option linter.unusedVariables false
set_option maxRecDepth 10000
section
variable {K : Value → World → Prop} {w : World}
theorem rotl_ok (x : W) (r : Nat) (h0 : 0 < r) (h1 : r < 32) (h : K (w32 (rotr x r)) w) : callM Tryz.prog 217 #[w32 x, .int .i64 (-(r : Int))] K w := by
  apply sh_217_ok
  unfold sh_217
  have e1 : IntKind.u64.wrap (-(r : Int)) = 18446744073709551616 - (r : Int) := by rw [IntKind.wrap_u64]; omega
  have e2 : bits .and .u64 (18446744073709551616 - (r : Int)) 31 = ((32 - r : Nat) : Int) := by
    rw [mask64 5 _ 31 (by omega) (by decide) (by omega)]; omega
  have e3 : IntKind.u64.wrap (32 - ((32 - r : Nat) : Int)) = (r : Int) := by rw [IntKind.wrap_u64]; omega
  have s1 := fun t t' T => wshl (P := Tryz.prog) t t' T .u64 x (32 - r) (by omega)
  have s2 := fun t t' T => wshr (P := Tryz.prog) t t' T .u64 x r (by omega)
  rw [← rotl_rotr] at h
  obtain ⟨m, hm⟩ : ∃ m, m = 32 - r := ⟨_, rfl⟩
  rw [← hm] at e2 e3 s1 h
  repeat (any_goals ((with_reducible refine idO ?_); (with_reducible refine oM_gen fun Kv hK=>?_); simp [go_sem, e1, e2, e3, s1, s2, wor]; refine hK _ _ ?_; clear hK; clear Kv))
  exact h
end
end Go.Proofs
namespace Go.Sh
open Go Go.RowKit
@[reducible] def ptr (g i : Nat) : Value := .pointer (some ⟨g, i, none⟩)
def Holds (w : World) (g : Nat) (T : TypeId) (vs : List Value) : Prop := w.heap[g]? = some (.cells vs.toArray T (0, 0))
theorem Holds.lt {w : World} {g : Nat} {T : TypeId} {vs : List Value} (h : Holds w g T vs) : g < w.heap.size := (Array.getElem?_eq_some_iff.1 h).1
theorem Holds.next {w w' : World} {g : Nat} {T : TypeId} {vs : List Value} (h : Holds w g T vs) (hb : Below w.heap.size w w') : Holds w' g T vs := by
  unfold Holds
  rw [hb.block g h.lt]; exact h
theorem Holds.other {w w' : World} {g g' : Nat} {T : TypeId} {vs : List Value} (h : Holds w g T vs) (hg : w.grownBy w' (some g')) (hne : g ≠ g') : Holds w' g T vs := by
  unfold Holds
  rw [hg.block g h.lt (fun e => hne (by cases e; rfl))]; exact h
theorem Holds.cell {w : World} {g : Nat} {T : TypeId} {vs : List Value} (h : Holds w g T vs) (i : Nat) (hi : i < vs.length) : w.cell? ⟨g, i, none⟩ = some vs[i] := by
  unfold World.cell?
  rw [h]
  simp [hi]
theorem Holds.are {w : World} {g : Nat} {T : TypeId} {vs : List Value} (h : Holds w g T vs) : cellsAre w (cellsOf [] g 0 vs) :=
  cellsOf_are (xs := vs) (L := []) trivial (fun i v hi => by
    obtain ⟨hl, rfl⟩ := List.getElem?_eq_some_iff.1 hi
    exact h.cell i hl) vs 0 rfl
section
variable {P : Program} {w : World} {K : Value → World → Prop} {T T' T0 : TypeId} {g n : Nat}
theorem arr_alloc {zs : List Value} (hA : ∀ w, (Instr.alloc T true (.tuple #[])).run P w = .ok (.pointer (some ⟨w.heap.size, 0, none⟩)) (w.alloc (.cells zs.toArray T)))
    (k : ∀ g W, Below w.heap.size w W → w.heap.size ≤ g → Holds W g T zs → K (ptr g 0) W) : oM P (.alloc T) T' [] K w := by
  rw [oM_alloc, hA]
  refine k _ _ ((Below.refl w.heap.size w).alloc (Nat.le_refl _) _) (Nat.le_refl _) ?_
  show (w.heap.push _)[w.heap.size]? = _
  simp
theorem arr_box {x : Value} {cs : List Value} (hx : x.cells = cs.toArray) (k : ∀ g W, Below w.heap.size w W → w.heap.size ≤ g → Holds W g T cs → K (ptr g 0) W) : oM P (.box T (.tmp 0)) T' [x] K w := by
  rw [oM_box]
  have e : (Instr.box T x).run P w = .ok (.pointer (some ⟨w.heap.size, 0, none⟩)) (w.alloc (.cells cs.toArray T)) := by
    rw [← hx]; rfl
  rw [e]
  refine k _ _ ((Below.refl w.heap.size w).alloc (Nat.le_refl _) _) (Nat.le_refl _) ?_
  show (w.heap.push _)[w.heap.size]? = _
  simp
theorem arr_storeRow {o m : Nat} {cur xs : List Value} {x : Value} (hT : ∀ w, (sizeOf T).run P w = .ok m w) (hx : x.cells = xs.toArray) (hl : xs.length = m) (h1 : ∀ u ∈ xs, u.oneCell' = true) (hg : Holds w g T0 cur) (hfit : o + m ≤ cur.length)
    (k : ∀ W, w.grownBy W (some g) → Holds W g T0 (cur.take o ++ xs ++ cur.drop (o + m)) → K undef W) : oM P (.store T (.tmp 0) (.tmp 1)) T' [ptr g o, x] K w := by
  have hst := run_storeCells_at P g o T0 xs 0 cur.toArray w hg (by simp; omega) h1
  rw [Nat.add_zero] at hst
  have e2 : x.cells.toList = xs := by rw [hx]
  have e3 : x.cells.size = m := by rw [hx]; simpa using hl
  have hrun : (Instr.storeAt T (ptr g o) x).run P w = .ok () (w.setRow g (cur.take o ++ xs ++ cur.drop (o + xs.length)).toArray) := by
    unfold Instr.storeAt storeVar
    rw [e2, e3]
    simp only [List.append_assoc] at hst ⊢
    simp [hT, go_sem]
    exact hst
  rw [oM_store, hrun]
  rw [hl] at *
  exact k _ (grown_setRow _ _ _) (setRow_heap w g _ _ T0 (0, 0) hg)
theorem arr_store {cur xs : List Value} {x : Value} (hT : ∀ w, (sizeOf T).run P w = .ok n w) (hx : x.cells = xs.toArray) (hl : xs.length = n) (h1 : ∀ u ∈ xs, u.oneCell' = true) (hg : Holds w g T0 cur) (hc : cur.length = n)
    (k : ∀ W, w.grownBy W (some g) → Holds W g T0 xs → K undef W) : oM P (.store T (.tmp 0) (.tmp 1)) T' [ptr g 0, x] K w := by
  refine arr_storeRow hT hx hl h1 hg (by omega) (fun W h2 h3 => k W h2 ?_)
  rw [Nat.zero_add, List.take_zero, List.nil_append, List.drop_of_length_le (by omega), List.append_nil] at h3
  exact h3
theorem arr_set {cur : List Value} {x : Value} {i : Nat} (hT : ∀ w, (sizeOf T).run P w = .ok 1 w) (hx : x.cells = #[x]) (h1 : x.oneCell' = true) (hg : Holds w g T0 cur) (hi : i < cur.length)
    (k : ∀ W, w.grownBy W (some g) → Holds W g T0 (cur.set i x) → K undef W) : oM P (.store T (.tmp 0) (.tmp 1)) T' [ptr g i, x] K w := by
  refine arr_storeRow (xs := [x]) hT hx rfl (by intro u hu; rw [List.mem_singleton] at hu; subst hu; exact h1) hg (by omega) (fun W h2 h3 => k W h2 ?_)
  rw [List.set_eq_take_append_cons_drop, if_pos hi]
  simpa [List.append_assoc] using h3
theorem arr_load {cs : List Value} {d : TypeDesc} (hg : Holds w g T0 cs) (hu : P.underlying T = some d) (hd : (match d with | .struct _ | .array _ _ => true | _ => false) = true) (hi : (P.info? T).map (·.size) = some cs.length) (k : K (.agg cs.toArray) w) :
    oM P (.load T (.tmp 0)) T' [ptr g 0] K w := by
  rw [oM_load]
  have := run_loadVar_row (P := P) w g T0 T cs.toArray (0, 0) d hg hu hd (by simpa using hi)
  have e : (Instr.loadAt T (ptr g 0)).run P w = (loadVar T ⟨g, 0, none⟩).run P w := rfl
  rw [e, this]
  exact k
theorem arr_ret {cs : List Value} {d : TypeDesc} (hg : Holds w g T0 cs) (hu : P.underlying T = some d) (hd : (match d with | .struct _ | .array _ _ => true | _ => false) = true) (hi : (P.info? T).map (·.size) = some cs.length) (k : K (.agg cs.toArray) w) :
    ∃ r, (do loadVar T (← asAddr (ptr g 0)) : Sem Value).run P w = .ok r w ∧ K r w := by
  have := run_loadVar_row (P := P) w g T0 T cs.toArray (0, 0) d hg hu hd (by simpa using hi)
  exact ⟨_, this, k⟩
theorem oM_idx_arr {N : Nat} (t : TypeId) (hu : P.underlying t = some (.array (P.arrayLen t) (P.elem t))) (hN : P.arrayLen t = N) (h2 : 2 ≤ N) (hs : ∀ w, (sizeOf (P.elem t)).run P w = .ok 1 w) (T : TypeId) (b o : Nat) (x : Int) :
    oM P (.indexAddr t (.tmp 0) (.tmp 1)) T [.pointer (some ⟨b, o, none⟩), .int .i64 x] = onM (0 ≤ x ∧ x < N) (.pointer (some ⟨b, o + x.toNat, none⟩)) := by
  funext K w
  rw [oM_indexAddr, run_indexAt_array (h := hu), hN]
  by_cases hi : 0 ≤ x ∧ x < N
  · rw [if_pos hi, hs]
    simp only [Result.andThen, add_none, Nat.mul_one, rM_ok]
    exact propext ⟨fun h => ⟨hi, h⟩, fun h => h.2⟩
  · rw [if_neg hi, if_neg (by omega)]
    obtain ⟨e', w', he⟩ := halts Value P .i64 x N .index w
    rw [he]
    exact propext ⟨fun h => h.elim, fun h => hi h.1⟩
theorem grown_below {w0 w' : World} (h0 : Below w0.heap.size w0 w) (hg : w.grownBy w' (some g)) (h : w0.heap.size ≤ g) : Below w0.heap.size w0 w' :=
  h0.grown hg h0.size (fun k hk => by cases hk; exact h)
end
end Go.Sh
namespace Go.Proofs
open Go Go.Sh Go.RowKit ShaSpec
set_option linter.unusedSimpArgs false
set_option linter.unusedVariables false
set_option maxRecDepth 10000
section
variable {K : Value → World → Prop} {w : World}
@[reducible] def ws (l : List W) : List Value := l.map w32
theorem ws_one (l : List W) : ∀ u ∈ ws l, u.oneCell' = true := by
  intro u hu
  obtain ⟨x, _, rfl⟩ := List.mem_map.1 hu
  rfl
@[reducible] def stV (s : St) : Value := .agg (ws s.list).toArray
theorem sz_words (w : World) : (sizeOf 207).run Tryz.prog w = .ok 8 w := by kernel_rfl
theorem sz_64 (w : World) : (sizeOf 224).run Tryz.prog w = .ok 64 w := by kernel_rfl
theorem sz_u32 (w : World) : (sizeOf 205).run Tryz.prog w = .ok 1 w := by kernel_rfl
theorem al_words (w : World) : (Instr.alloc 207 true (.tuple #[])).run Tryz.prog w = .ok (.pointer (some ⟨w.heap.size, 0, none⟩)) (w.alloc (.cells (ws (List.replicate 8 0)).toArray 207)) := by kernel_rfl
theorem al_64 (w : World) : (Instr.alloc 224 true (.tuple #[])).run Tryz.prog w = .ok (.pointer (some ⟨w.heap.size, 0, none⟩)) (w.alloc (.cells (ws (List.replicate 64 0)).toArray 224)) := by kernel_rfl
theorem un_words : Tryz.prog.underlying 207 = some (.array (Tryz.prog.arrayLen 207) (Tryz.prog.elem 207)) := by kernel_rfl
theorem un_64 : Tryz.prog.underlying 224 = some (.array (Tryz.prog.arrayLen 224) (Tryz.prog.elem 224)) := by kernel_rfl
@[go_sem] theorem idx_words (T : TypeId) (b o : Nat) (x : Int) : oM Tryz.prog (.indexAddr 207 (.tmp 0) (.tmp 1)) T [.pointer (some ⟨b, o, none⟩), .int .i64 x] = onM (0 ≤ x ∧ x < (8 : Nat)) (.pointer (some ⟨b, o + x.toNat, none⟩)) :=
  oM_idx_arr _ un_words (by kernel_rfl) (by decide) (fun w => by kernel_rfl) T b o x
@[go_sem] theorem idx_64 (T : TypeId) (b o : Nat) (x : Int) : oM Tryz.prog (.indexAddr 224 (.tmp 0) (.tmp 1)) T [.pointer (some ⟨b, o, none⟩), .int .i64 x] = onM (0 ≤ x ∧ x < (64 : Nat)) (.pointer (some ⟨b, o + x.toNat, none⟩)) :=
  oM_idx_arr _ un_64 (by kernel_rfl) (by decide) (fun w => by kernel_rfl) T b o x
theorem build_first : oM Tryz.prog (Go.Op.build 207 #[(0, (.tmp 0)), (1, (.tmp 1)), (2, (.tmp 2)), (3, (.tmp 3)), (4, (.tmp 4)), (5, (.tmp 5)), (6, (.tmp 6)), (7, (.tmp 7))]) 207 [(.int .u32 1779033703), (.int .u32 3144134277), (.int .u32 1013904242), (.int .u32 2773480762), (.int .u32 1359893119), (.int .u32 2600822924), (.int .u32 528734635), (.int .u32 1541459225)] = pureM (stV first) := by
  funext K w
  kernel_rfl
theorem first_ok (k : ∀ w', Below w.heap.size w w' → K (stV first) w') : callM Tryz.prog 195 #[] K w := by
  apply sh_195_ok
  unfold sh_195
  refine arr_alloc al_words fun g W hb hg hh => ?_
  rw [build_first]
  refine pureM_in ?_
  refine arr_store sz_words (xs := ws first.list) rfl rfl (ws_one _) hh rfl (fun W2 hg2 hh => ?_)
  exact arr_ret hh un_words rfl (by kernel_rfl) (k _ (grown_below hb hg2 hg))
theorem build_table : ∀ K w, oM Tryz.prog (Go.Op.build 224 ((List.range 64).map fun i => (i, Operand.tmp i)).toArray) 224 (ws consts) K w = pureM (.agg (ws consts).toArray) K w := by
  intro K w
  kernel_rfl
theorem table_ok (k : ∀ w', Below w.heap.size w w' → K (.agg (ws consts).toArray) w') : callM Tryz.prog 216 #[] K w := by
  apply sh_216_ok
  unfold sh_216
  refine arr_alloc al_64 fun g W hb hg hh => ?_
  refine (build_table _ W).symm ▸ ?_
  refine pureM_in ?_
  refine arr_store sz_64 (xs := ws consts) rfl rfl (ws_one _) hh rfl (fun W2 hg2 hh => ?_)
  exact arr_ret hh un_64 rfl (by kernel_rfl) (k _ (grown_below hb hg2 hg))
def ByR (w : World) (b o : Nat) (l : List UInt8) : Prop := b < w.heap.size ∧ ∀ i, i < l.length → w.cell? ⟨b, o + i, none⟩ = some (.int .u8 ((l.getD i 0).toNat : Int))
theorem ByR.next {w w' : World} {b o : Nat} {l : List UInt8} (h : ByR w b o l) (hb : Below w.heap.size w w') : ByR w' b o l :=
  ⟨Nat.lt_of_lt_of_le h.1 hb.size, fun i hi => by rw [hb.cell h.1]; exact h.2 i hi⟩
theorem conv_u8 (T : TypeId) (x : UInt8) : oM Tryz.prog (.convert 5 205 (.tmp 0)) T [.int .u8 (x.toNat : Int)] = pureM (w32 (w8 x)) := by
  funext K w
  have e : IntKind.u32.wrap (x.toNat : Int) = ((w8 x).toNat : Int) := by
    have := x.toNat_lt
    rw [IntKind.wrap_u32]
    unfold w8
    rw [BitVec.toNat_ofNat]
    omega
  have e2 : (convert 5 205 (.int .u8 (x.toNat : Int))).run Tryz.prog w = .ok (.int .u32 (IntKind.u32.wrap (x.toNat : Int))) w := by kernel_rfl
  rw [oM_convert, e2, e]
  rfl
end
end Go.Proofs
