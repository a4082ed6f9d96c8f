/- Parts of the proof of the seat's statements (ShelfT4, CodeSpec, TcB, TcE, TcR, TcR2, TcI, TkO, TkP0, TkP, HTa, HSha, ShaSpec, ShW, SaA, ShArr, SaB, SaC, SaD, SaE, ShMn, TkSpec2, TkR, TkS, TkT, TkSpec3, HFo, FoA, FoB, FoC): lemmas about the given translation and plain laws. No condition of their own. -/
import Derived.Test.YtpfjmfgnlpnflaaGreatDoorZlc
import Derived.Shelf.Strings.Builder1
import Derived.Shelf.Small.Strs
import Derived.Shelf.Small.Wraps
import Derived.Shelf.Strings.BuilderF
import Derived.Shelf.Strings.BuilderK
import Derived.Shelf.Strconv.Atoi
import Derived.Shelf.Strconv.Itoa0
import Derived.Shelf.Strconv.Itoa1
import Derived.Shelf.LaysM
import Derived.Shelf.Strconv.Itoa2
import Derived.Shelf.Strconv.Itoa3
import Derived.Shelf.Strconv.AtoiErrFast
import Derived.Shelf.Strconv.ParseIntEmpty
import Derived.Shelf.Strconv.AtoiFail
import Derived.Shelf.Strconv.Clone
import Derived.Shelf.Strconv.SyntaxError
import Derived.Shelf.LaysC
import Derived.Shelf.Strconv.ToError
import Derived.Shelf.Strconv.Lower
import Derived.Shelf.Strconv.ParseUint10
import Derived.Shelf.Strconv.ParseUint10Empty
import Derived.Shelf.Strconv.ParseUint10Any
import Derived.Shelf.Strconv.ParseInt10
import Derived.Shelf.Strconv.AtoiLong
import Derived.Shelf.Strconv.AtoiInnerAll
import Derived.Shelf.Strconv.RangeError
import Derived.Shelf.Strconv.ToErrorRange
import Derived.Shelf.Strconv.AtoiAll
import Derived.Shelf.Strconv.ErrVarAll
import Derived.Shelf.Strings.Search1
import Derived.Shelf.Strings.Prefix
import Derived.Shelf.Bits.Mul64
import Derived.Test.YtpfjmfgnlpnflaaGreatDoorProg
import Derived.Test.YtpfjmfgnlpnflaaGreatDoorRows
import Derived.Lib.ItoaNum
import Derived.Lib.AtoiAllCases
import Derived.Lib.Builder
import Derived.Lib.AppendStr
import Derived.Lib.AppendIntMem
import Derived.Laws.StructEq
set_option linter.all false
set_option maxRecDepth 100000
namespace Go.Proofs
abbrev tabName : String := (YtpfjmfgnlpnflaaGreatDoor.Rows.ticketHonestRow.laid.map (fun x => x.1)).getD 2 default
open Go.Shelf
def Tryz.lays169_ren : Go.Shelf.Ren := ⟨fun | 169 => 195 | n => n, fun | 70 => 207 | 9 => 9 | 0 => 0 | 72 => 209 | 37 => 181 | 127 => 233 | 3 => 3 | 5 => 5 | n => n, fun | n => n⟩
theorem Tryz.lays169 : Go.Proofs.Lays.n169 Tryz.prog Tryz.lays169_ren := {
  mixed := by kernel_rfl
  f169 := Tryz.func195.trans (congrArg some (by kernel_rfl))
  t0 := Tryz.underlying0
  a0 := Tryz.isAgg0
  z0 := Tryz.sizeOf0
  v0 := Tryz.zeroValue0
  t3 := Tryz.underlying3
  a3 := Tryz.isAgg3
  z3 := Tryz.sizeOf3
  v3 := Tryz.zeroValue3
  t9 := Tryz.underlying9
  a9 := Tryz.isAgg9
  z9 := Tryz.sizeOf9
  v9 := Tryz.zeroValue9
  t37 := Tryz.underlying181
  a37 := Tryz.isAgg181
  z37 := Tryz.sizeOf181
  v37 := Tryz.zeroValue181
  t70 := Tryz.underlying207
  a70 := Tryz.isAgg207
  z70 := Tryz.sizeOf207
  v70 := Tryz.zeroValue207
  t72 := Tryz.underlying209
  a72 := Tryz.isAgg209
  z72 := Tryz.sizeOf209
  v72 := Tryz.zeroValue209
  t127 := Tryz.underlying233
  a127 := Tryz.isAgg233
  z127 := Tryz.sizeOf233
  v127 := Tryz.zeroValue233 }
theorem Tryz.Builder_Extra_169 : Builder.Extra Tryz.prog Tryz.lays169_ren := {
  sizeBuilder := by kernel_rfl
  liesBuilder := by kernel_rfl
  t5 := Tryz.underlying5
  a5 := Tryz.isAgg5
  z5 := Tryz.sizeOf5
  v5 := Tryz.zeroValue5
  infoByte := by kernel_rfl
  cellsByte := by kernel_rfl
  sizeByte := by kernel_rfl
  neB5 := by decide }
open Go.RowKit in
theorem Tryz.Builder_String_any (B b : Nat) (l : List UInt8) (w : World) (h : Lib.IsBuilder 209 5 B b (Lib.byteCells l) w) (hBw : B ≤ w.heap.size) :
    Calls Tryz.prog 195 #[.pointer (some ⟨b, 0, none⟩)] w fun e w' => e = .returned (.string ⟨l.toArray⟩) ∧ Below B w w' := Any.Builder_String_any Tryz.lays169 Tryz.Builder_Extra_169 B b l w h hBw
def Tryz.laysM171_ren : Go.Shelf.Ren := ⟨fun | 171 => 145 | 243 => 186 | 246 => 208 | 283 => 223 | 284 => 224 | 285 => 225 | 286 => 226 | 129 => 222 | 317 => 232 | 318 => 233 | 319 => 234 | 320 => 235 | 337 => 243 | 338 => 220 | n => n, fun | 3 => 3 | 9 => 9 | 2 => 2 | 4 => 4 | 171 => 236 | 0 => 0 | 53 => 139 | 37 => 181 | 5 => 5 | 173 => 238 | 212 => 245 | 51 => 200 | 20 => 20 | 213 => 246 | 46 => 174 | 232 => 261 | 233 => 243 | n => n, fun | 17 => 3 | 18 => 7 | 19 => 2 | n => n⟩
theorem Tryz.laysM171 : Go.Proofs.LaysM.n171 Tryz.prog Tryz.laysM171_ren := {
  mixed := by kernel_rfl
  f129 := Tryz.func222.trans (congrArg some (by kernel_rfl))
  f171 := Tryz.func145.trans (congrArg some (by kernel_rfl))
  f243 := Tryz.func186.trans (congrArg some (by kernel_rfl))
  f246 := Tryz.func208.trans (congrArg some (by kernel_rfl))
  f283 := Tryz.func223.trans (congrArg some (by kernel_rfl))
  f284 := Tryz.func224.trans (congrArg some (by kernel_rfl))
  f285 := Tryz.func225.trans (congrArg some (by kernel_rfl))
  f286 := Tryz.func226.trans (congrArg some (by kernel_rfl))
  f317 := Tryz.func232.trans (congrArg some (by kernel_rfl))
  f318 := Tryz.func233.trans (congrArg some (by kernel_rfl))
  f319 := Tryz.func234.trans (congrArg some (by kernel_rfl))
  f320 := Tryz.func235.trans (congrArg some (by kernel_rfl))
  f337 := Tryz.func243.trans (congrArg some (by kernel_rfl))
  f338 := Tryz.func220.trans (congrArg some (by kernel_rfl))
  t0 := Tryz.underlying0
  a0 := Tryz.isAgg0
  z0 := Tryz.sizeOf0
  v0 := Tryz.zeroValue0
  t2 := Tryz.underlying2
  a2 := Tryz.isAgg2
  z2 := Tryz.sizeOf2
  v2 := Tryz.zeroValue2
  t3 := Tryz.underlying3
  a3 := Tryz.isAgg3
  z3 := Tryz.sizeOf3
  v3 := Tryz.zeroValue3
  t4 := Tryz.underlying4
  a4 := Tryz.isAgg4
  z4 := Tryz.sizeOf4
  v4 := Tryz.zeroValue4
  t5 := Tryz.underlying5
  a5 := Tryz.isAgg5
  z5 := Tryz.sizeOf5
  v5 := Tryz.zeroValue5
  t9 := Tryz.underlying9
  a9 := Tryz.isAgg9
  z9 := Tryz.sizeOf9
  v9 := Tryz.zeroValue9
  t20 := Tryz.underlying20
  a20 := Tryz.isAgg20
  z20 := Tryz.sizeOf20
  v20 := Tryz.zeroValue20
  t37 := Tryz.underlying181
  a37 := Tryz.isAgg181
  z37 := Tryz.sizeOf181
  v37 := Tryz.zeroValue181
  t46 := Tryz.underlying174
  a46 := Tryz.isAgg174
  z46 := Tryz.sizeOf174
  v46 := Tryz.zeroValue174
  t51 := Tryz.underlying200
  a51 := Tryz.isAgg200
  z51 := Tryz.sizeOf200
  v51 := Tryz.zeroValue200
  t53 := Tryz.underlying139
  a53 := Tryz.isAgg139
  z53 := Tryz.sizeOf139
  v53 := Tryz.zeroValue139
  t171 := Tryz.underlying236
  a171 := Tryz.isAgg236
  z171 := Tryz.sizeOf236
  v171 := Tryz.zeroValue236
  t173 := Tryz.underlying238
  a173 := Tryz.isAgg238
  z173 := Tryz.sizeOf238
  v173 := Tryz.zeroValue238
  t212 := Tryz.underlying245
  a212 := Tryz.isAgg245
  z212 := Tryz.sizeOf245
  v212 := Tryz.zeroValue245
  t213 := Tryz.underlying246
  a213 := Tryz.isAgg246
  z213 := Tryz.sizeOf246
  t232 := Tryz.underlying261
  a232 := Tryz.isAgg261
  z232 := Tryz.sizeOf261
  v232 := Tryz.zeroValue261
  t233 := Tryz.underlying243
  a233 := Tryz.isAgg243
  z233 := Tryz.sizeOf243
  v233 := Tryz.zeroValue243
  g17 := by kernel_rfl
  g18 := by kernel_rfl
  g19 := by kernel_rfl
  i0 := by kernel_rfl
  i2 := by kernel_rfl
  i3 := by kernel_rfl
  i4 := by kernel_rfl
  i5 := by kernel_rfl
  i9 := by kernel_rfl
  i20 := by kernel_rfl
  i37 := by kernel_rfl
  i46 := by kernel_rfl
  i51 := by kernel_rfl
  i53 := by kernel_rfl
  i171 := by kernel_rfl
  i173 := by kernel_rfl
  i212 := by kernel_rfl
  i232 := by kernel_rfl
  i233 := by kernel_rfl
  m17 := by kernel_rfl
  m18 := by kernel_rfl
  m19 := by kernel_rfl }
open Go.RowKit Go.Sort Go.Lib in
theorem Tryz.strconv_Itoa (n : Int) (h0 : -9223372036854775808 ≤ n) (h1 : n ≤ 9223372036854775807) (w : World) (htab : Lib.TabIs Tryz.prog w tabName .u64 Lib.pow10Tab) :
    Calls Tryz.prog 145 #[.int .i64 n] w fun e w' => e = .returned (.string ⟨(Lib.itoa n).toArray⟩) ∧ ∃ k os, w' = grow (w.drewN k) os := Any.strconv_Itoa Tryz.laysM171 n h0 h1 w htab
end Go.Proofs
namespace CodeSpec
open Go.Lib
abbrev Bytes := List UInt8
def InR (n : Int) : Prop := -9223372036854775808 ≤ n ∧ n ≤ 9223372036854775807
def encInt (n : Int) : Bytes := itoa n ++ [59]
def encText (s : Bytes) : Bytes := itoa s.length ++ 58 :: (s ++ [44])
def encList (l : List Bytes) : Bytes := itoa l.length ++ 91 :: (l.flatten ++ [93])
def encNums (l : List Int) : Bytes := encList (l.map encInt)
structure Rd where
  rest : Bytes
  bad : Bool
theorem decDigits_len (u : Nat) (k : Nat) (hk : 1 ≤ k) (h : u < 10 ^ k) : (decDigits u).length ≤ k := by
  induction k generalizing u with
  | zero => omega
  | succ k ih =>
    rw [decDigits]
    split
    · simp
    · rename_i h10
      have hk1 : 1 ≤ k := by
        rcases Nat.eq_zero_or_pos k with rfl | h0
        · simp at h; omega
        · exact h0
      have := ih (u / 10) hk1 (by rw [Nat.pow_succ] at h; omega)
      simp only [List.length_append, List.length_singleton]
      omega
theorem itoa_len (n : Int) (h : InR n) : (itoa n).length ≤ 20 := by
  obtain ⟨h1, h2⟩ := h
  unfold itoa
  split
  · have := decDigits_len n.natAbs 19 (by omega) (by omega)
    simp; omega
  · have := decDigits_len n.toNat 19 (by omega) (by omega)
    omega
def Rd.ok (r : Rd) : Prop := r.bad = true → r.rest = []
end CodeSpec
namespace Go.Proofs.Cd
open Go Go.Sh Go.RowKit Go.Lib CodeSpec
set_option linter.unusedSimpArgs false
set_option maxRecDepth 10000
theorem ba_extract (l : List UInt8) (i j : Nat) : (⟨l.toArray⟩ : ByteArray).extract i j = ⟨((l.take j).drop i).toArray⟩ := by
  apply ByteArray.ext
  rw [← Array.toList_inj, ByteArray.data_extract, Array.toList_extract, List.extract_eq_take_drop]
  simp [List.drop_take]
theorem ba_inj (a b : List UInt8) : ((⟨a.toArray⟩ : ByteArray) = ⟨b.toArray⟩) = (a = b) := by
  simp
theorem ba_byteAt (l : List UInt8) (k : Nat) : byteAt ⟨l.toArray⟩ k = l.getD k 0 := by
  simp [byteAt]
attribute [go_sem] ba_size ba_append ba_extract ba_byteAt ba_inj
theorem K_eq {K : Value → World → Prop} {w : World} {a b : Value} (h : K a w) (e : b = a) : K b w := by rw [e]; exact h
theorem call_of_calls {f : FuncId} {args : Array Value} {w : World} {v : Value} {Q : World → Prop} {K : Value → World → Prop} (h : Calls Tryz.prog f args w fun e w' => e = .returned v ∧ Q w') (k : ∀ w', Q w' → K v w') : callM Tryz.prog f args K w :=
  Calls.mono h (fun _ w' ⟨he, hq⟩ => ⟨v, he, k w' hq⟩)
structure Laid (w : World) : Prop where
  tab : TabIs Tryz.prog w tabName .u64 pow10Tab
  size : 8 ≤ w.heap.size
structure LaidE (w : World) : Prop extends Laid w where
  syn : ∃ te pe, w.cell? ⟨5, 0, none⟩ = some (.iface te pe)
  ran : ∃ te pe, w.cell? ⟨6, 0, none⟩ = some (.iface te pe)
theorem gTab : Tryz.prog.globalNamed tabName = some 3 := by kernel_rfl
theorem Laid.keep {w w' : World} (h : Laid w) (hb : ∀ k, k < 8 → w'.heap[k]? = w.heap[k]?) (hs : w.heap.size ≤ w'.heap.size) : Laid w' := by
  refine ⟨?_, Nat.le_trans h.size hs⟩
  have h1 := h.tab
  unfold TabIs World.var? at h1 ⊢
  rw [gTab] at h1 ⊢
  simp only [Option.bind_some] at h1 ⊢
  rw [hb _ (by omega)]
  exact h1
theorem Laid.below {w w' : World} (h : Laid w) {B : Nat} (hb : Below B w w') (hB : 8 ≤ B) : Laid w' := h.keep (fun k hk => hb.block k (by omega)) hb.size
theorem Laid.grown {w w' : World} (h : Laid w) {b : Nat} (hg : w.grownBy w' (some b)) (hb : 8 ≤ b) : Laid w' := h.keep (fun k hk => hg.block k (by have := h.size; omega) (by simp; omega)) hg.size
theorem LaidE.keep {w w' : World} (h : LaidE w) (hb : ∀ k, k < 8 → w'.heap[k]? = w.heap[k]?) (hs : w.heap.size ≤ w'.heap.size) : LaidE w' := by
  have hc : ∀ k, k < 8 → w'.cell? ⟨k, 0, none⟩ = w.cell? ⟨k, 0, none⟩ := fun k hk => World.cell?_of_block (w := w) (hb k hk)
  refine ⟨h.toLaid.keep hb hs, ?_, ?_⟩
  · rw [hc _ (by omega)]; exact h.syn
  · rw [hc _ (by omega)]; exact h.ran
theorem LaidE.below {w w' : World} (h : LaidE w) {B : Nat} (hb : Below B w w') (hB : 8 ≤ B) : LaidE w' := h.keep (fun k hk => hb.block k (by omega)) hb.size
theorem LaidE.grown {w w' : World} (h : LaidE w) {b : Nat} (hg : w.grownBy w' (some b)) (hb : 8 ≤ b) : LaidE w' := h.keep (fun k hk => hg.block k (by have := h.toLaid.size; omega) (by simp; omega)) hg.size
theorem grown_of_below {w w' : World} (h : Below w.heap.size w w') (b : Option Nat) : w.grownBy w' b := ⟨h.os, h.tape, h.output, h.size, fun k hk _ => h.block k hk⟩
theorem below_of_grown {B : Nat} {w w' : World} {row : Option Nat} (h : w.grownBy w' row) (hB : B ≤ w.heap.size) (hr : ∀ k, row = some k → B ≤ k) : Below B w w' :=
  (Below.refl B w).grown h hB hr
theorem itoa_ok (n : Int) (hn : InR n) {K : Value → World → Prop} {w : World} (hl : Laid w) (k : ∀ w', Below w.heap.size w w' → K (.string ⟨(itoa n).toArray⟩) w') : callM Tryz.prog 145 #[.int .i64 n] K w := by
  refine call_of_calls (Tryz.strconv_Itoa n hn.1 hn.2 w hl.tab) ?_
  rintro w' ⟨d, os, rfl⟩
  exact k _ (below_grow _ _ (Nat.le_refl _) _ _)
theorem infoB : Tryz.prog.info? 209 = some Tryz.t209 := by kernel_rfl
theorem sizeB : Tryz.t209.size = 2 := by kernel_rfl
theorem liesB (b : Nat) : liesAt Tryz.prog Tryz.prog.depth 209 (2 / Tryz.prog.cellsOf 209) (⟨b, 0, none⟩ : Addr).off 209 1 = true := by kernel_rfl
theorem runNE (x : Value) (w : World) : (callFunc 231 #[x]).run Tryz.prog w = .ok (.value x) w := by kernel_rfl
theorem extNE {x : Value} {K : Value → World → Prop} {w : World} (k : K x w) : extM Tryz.prog 231 #[x] K w := by
  unfold extM opM
  rw [runNE]
  exact k
theorem copyCheck_nil (B b : Nat) (bs : List Value) (w : World) (h : BuilderAt 209 5 B b (.pointer none) bs w) {K : Value → World → Prop}
    (k : K (.tuple #[]) (w.setCell ⟨b, 0, none⟩ (.pointer (some ⟨b, 0, none⟩)))) : callM Tryz.prog 216 #[.pointer (some ⟨b, 0, none⟩)] K w := by
  apply sh_216_ok
  unfold sh_216
  have hc := h.cell0
  have hf := h.frozen0
  have hv1 : (convert 207 241 (.pointer (some ⟨b, 0, none⟩))).run Tryz.prog w = .ok (.pointer (some ⟨b, 0, none⟩)) w :=
    run_to_unsafe (P := Tryz.prog) (w := w) (a := ⟨b, 0, none⟩) Tryz.underlying207 Tryz.underlying241 (t := 209) (j := Tryz.t209) infoB (by rw [sizeB]; omega) h.shape (by show (0 : Nat) < 2; omega)
  have hv2 : (convert 241 207 (.pointer (some ⟨b, 0, none⟩))).run Tryz.prog w = .ok (.pointer (some ⟨b, 0, none⟩)) w :=
    run_from_unsafe (P := Tryz.prog) (w := w) (a := ⟨b, 0, none⟩) Tryz.underlying241 Tryz.underlying207 (u := 209) (j := Tryz.t209) infoB h.shape (liesB b)
  repeat (any_goals (first
  | (with_reducible refine extNE ?_)
  | (with_reducible ((refine idCond ?_); refine yL ?_))
  | ((with_reducible refine idO ?_); (with_reducible refine oM_gen fun Kv hK=>?_); simp [go_sem, oM_eqc, eqGuard, hc, hf, hv1, hv2]; refine hK _ _ ?_; clear hK; clear Kv)))
  exact k
theorem copyCheck_self (B b : Nat) (bs : List Value) (w : World) (h : BuilderAt 209 5 B b (.pointer (some ⟨b, 0, none⟩)) bs w) {K : Value → World → Prop}
    (k : K (.tuple #[]) w) : callM Tryz.prog 216 #[.pointer (some ⟨b, 0, none⟩)] K w := by
  apply sh_216_ok
  unfold sh_216
  have hc := h.cell0
  have hf := h.frozen0
  have hn := run_neq_ptr_same (P := Tryz.prog) (w := w) (tp := 207) (te := 209) (j := Tryz.t209) (a := ⟨b, 0, none⟩) Tryz.underlying207 infoB
  repeat (any_goals (first
  | (with_reducible ((refine idCond ?_); refine yM ?_))
  | ((with_reducible refine idO ?_); (with_reducible refine oM_gen fun Kv hK=>?_); simp [go_sem, oM_eqc, oM_net, eqGuard, hc, hf, hn]; refine hK _ _ ?_; clear hK; clear Kv)))
  exact k
theorem copyCheck_ok (B b : Nat) (bs : List Value) (w : World) (h : IsBuilder 209 5 B b bs w) {K : Value → World → Prop}
    (k : ∀ w', BuilderAt 209 5 B b (.pointer (some ⟨b, 0, none⟩)) bs w' → w.grownBy w' (some b) → w'.heap.size = w.heap.size → K (.tuple #[]) w') : callM Tryz.prog 216 #[.pointer (some ⟨b, 0, none⟩)] K w := by
  rcases h with h | h
  · refine copyCheck_nil B b bs w h (k _ (h.used _) ⟨rfl, rfl, rfl, by simp [World.setCell], fun i _ hi => Below.heap_setCell _ _ _ _ (fun e => hi (by simp [e]))⟩ (by simp [World.setCell]))
  · exact copyCheck_self B b bs w h (k _ h ⟨rfl, rfl, rfl, Nat.le_refl _, fun _ _ _ => rfl⟩ rfl)
theorem ownsRow_slice {w : World} {B : Nat} {e : TypeId} {sz : Nat} {v : Value} {n : Nat} {xs : List Value} (h : w.ownsRow B e sz v n xs) : ∃ a m c, v = .slice a m c := by
  rcases h.2 with ⟨h, _⟩ | ⟨g, cap, cur, h, _⟩
  · exact ⟨_, _, _, h⟩
  · exact ⟨_, _, _, h⟩
theorem builderString_ok (B b : Nat) (l : List UInt8) (w : World) (h : IsBuilder 209 5 B b (Lib.byteCells l) w) (hBw : B ≤ w.heap.size) {K : Value → World → Prop} (k : ∀ w', Below B w w' → K (.string ⟨l.toArray⟩) w') : callM Tryz.prog 195 #[.pointer (some ⟨b, 0, none⟩)] K w :=
  call_of_calls (Tryz.Builder_String_any B b l w h hBw) k
theorem writeString_ok (B b : Nat) (l s : List UInt8) (w : World) (h : IsBuilder 209 5 B b (Lib.byteCells l) w) (hlen : l.length + s.length ≤ 140737488355328) (hBw : B ≤ w.heap.size) {K : Value → World → Prop}
    (k : ∀ w', IsBuilder 209 5 B b (Lib.byteCells (l ++ s)) w' → Below B w w' → K (.tuple #[.int .i64 s.length, .nilIface]) w') : callM Tryz.prog 194 #[.pointer (some ⟨b, 0, none⟩), .string ⟨s.toArray⟩] K w := by
  apply sh_194_ok
  unfold sh_194
  refine copyCheck_ok B b _ w h ?_
  intro w1 h1 hg1 hs1
  obtain ⟨hB, v, hb, hown, hne⟩ := h1
  have hc1 : w1.cell? ⟨b, 1, none⟩ = some v := by simp [World.cell?, hb]
  have hbl : Below B w w1 := below_of_grown hg1 hBw (fun k hk => by cases hk; exact hB)
  have hbl5 : (Lib.byteCells l).length = l.length := by simp [Lib.byteCells]
  repeat (any_goals ((with_reducible refine idO ?_); (with_reducible refine oM_gen fun Kv hK=>?_); simp [go_sem, hc1]; refine hK _ _ ?_; clear hK; clear Kv))
  obtain ⟨v', w2, hrun, ho, hg, _⟩ := run_append_own_string (P := Tryz.prog) w1 B 181 9 181 5 Tryz.t5 Tryz.underlying181 Tryz.underlying9 (by kernel_rfl) (by kernel_rfl) (by kernel_rfl) (by kernel_rfl) v (Lib.byteCells l).length (Lib.byteCells l) hown ⟨s.toArray⟩ (by unfold maxLen; rw [ba_size]; omega) (by rw [ba_size]; omega) (by omega)
  rw [oM_value (S := Builtin.append_ #[181, 9] 181 #[v, .string ⟨s.toArray⟩]) (by simp [xop, execOp, evalL, evE, resolve, invoke, builtin]), hrun, ok_iff]
  have hb2 : w2.heap[b]? = some (.cells #[.pointer (some ⟨b, 0, none⟩), v] 209 (0, 0)) := by
    rw [hg.block b (by have := (Array.getElem?_eq_some_iff.1 hb).1; exact this) (fun e => hne e.symm)]
    exact hb
  have hc2 : w2.cell? ⟨b, 1, none⟩ = some v := by simp [World.cell?, hb2]
  have hf2 : w2.frozen? ⟨b, 1, none⟩ = false := by simp [World.frozen?, hb2]
  have ho' : w2.ownsRow B 5 1 v' (Lib.byteCells (l ++ s)).length (Lib.byteCells (l ++ s)) := by
    have e : Lib.byteCells l ++ strCells ⟨s.toArray⟩ = Lib.byteCells (l ++ s) := by simp [Lib.byteCells, strCells]
    have e2 : (Lib.byteCells l).length + (⟨s.toArray⟩ : ByteArray).size = (Lib.byteCells (l ++ s)).length := by rw [ba_size]; simp [Lib.byteCells]
    rw [e, e2] at ho
    exact ho
  have hput := BuilderAt.put (p := .pointer (some ⟨b, 0, none⟩)) hB hb2 ho' (by decide)
  have hbl2 : Below B w w2 := hbl.trans (below_of_grown hg (by omega) (fun k hk => (hown.lt k hk).1))
  obtain ⟨av, nv, cv, rfl⟩ := ownsRow_slice ho
  repeat (any_goals ((with_reducible refine idO ?_); (with_reducible refine oM_gen fun Kv hK=>?_); simp [go_sem, hc2, hf2]; refine hK _ _ ?_; clear hK; clear Kv))
  exact k _ (.inr hput) (hbl2.setCell hB _)
end Go.Proofs.Cd
namespace Go.Proofs.Cd
open Go Go.Sh Go.RowKit Go.Lib CodeSpec
set_option linter.unusedSimpArgs false
set_option maxRecDepth 10000
def intV (n : Int) : Value := .int .i64 n
def RowOf {α : Type} (mk : α → Value) (w : World) (v : Value) (l : List α) : Prop :=
  ∃ ad c, v = .slice ad l.length c ∧ (l = [] ∨ ∃ b o, ad = some ⟨b, o, none⟩ ∧ b < w.heap.size ∧ ∀ (i : Nat) (h : i < l.length), w.cell? ⟨b, o + i, none⟩ = some (mk l[i]))
theorem RowOf.below {α : Type} {mk : α → Value} {w w' : World} {v : Value} {l : List α} (h : RowOf mk w v l) (hb : Below w.heap.size w w') : RowOf mk w' v l := by
  obtain ⟨ad, c, rfl, h⟩ := h
  refine ⟨ad, c, rfl, h.imp id ?_⟩
  rintro ⟨b, o, rfl, hlt, hc⟩
  exact ⟨b, o, rfl, Nat.lt_of_lt_of_le hlt hb.size, fun i hi => by rw [hb.cell hlt]; exact hc i hi⟩
theorem RowOf.nil {α : Type} (mk : α → Value) (w : World) (ad : Option Addr) (c : Nat) : RowOf mk w (.slice ad 0 c) [] := ⟨ad, c, rfl, .inl rfl⟩
theorem addr_add (b o k : Nat) : (⟨b, o, none⟩ : Addr).add k = ⟨b, o + k, none⟩ := by
  unfold Addr.add
  split
  · rename_i h0; rw [h0]; simp
  · rfl
theorem RowOf.of_owns {α : Type} {mk : α → Value} {w : World} {B : Nat} {e : TypeId} {v : Value} {l : List α} (h : w.ownsRow B e 1 v l.length (l.map mk)) : RowOf mk w v l := by
  rcases h.2 with ⟨rfl, h0⟩ | ⟨g, cap, cur, rfl, hb, hg, hn, hm, hcs, ht⟩
  · obtain rfl : l = [] := List.eq_nil_of_length_eq_zero h0
    exact RowOf.nil _ _ _ _
  · refine ⟨_, cap, rfl, .inr ⟨g, 0, rfl, (Array.getElem?_eq_some_iff.1 hg).1, fun i hi => ?_⟩⟩
    have : (l.map mk)[i]? = some (mk l[i]) := by simp [hi]
    rw [← ht, List.getElem?_take_of_lt (by omega)] at this
    unfold World.cell?
    rw [hg]
    simpa using this
theorem idx22 {b o n c k : Nat} (hk : k < n) (w : World) : (Instr.indexAt 22 (.slice (some ⟨b, o, none⟩) n c) (.int .i64 k)).run Tryz.prog w = .ok (.pointer (some ⟨b, o + k, none⟩)) w := by
  rw [run_indexAt_slice (h := by kernel_rfl), if_pos (by omega)]
  have hs : (sizeOf (Tryz.prog.elem 22)).run Tryz.prog w = .ok 1 w := by kernel_rfl
  rw [hs]
  simp only [Result.andThen, Int.toNat_natCast, addr_add, Nat.mul_one]
theorem encInt_len (n : Int) (h : InR n) : (encInt n).length ≤ 21 := by
  have := itoa_len n h
  simp [encInt]; omega
theorem pInt_ok (n : Int) (hn : InR n) {K : Value → World → Prop} {w : World} (hl : Laid w) (k : ∀ w', Below w.heap.size w w' → K (.string ⟨(encInt n).toArray⟩) w') : callM Tryz.prog 168 #[.int .i64 n] K w := by
  apply sh_168_ok
  unfold sh_168
  refine itoa_ok n hn hl ?_
  intro w1 hb
  have := itoa_len n hn
  repeat (any_goals ((with_reducible refine idO ?_); (with_reducible refine oM_gen fun Kv hK=>?_); simp [go_sem]; refine And.intro (by omega) (hK _ _ ?_); clear hK; clear Kv))
  exact K_eq (k _ hb) (by simp [encInt])
theorem encText_len (s : List UInt8) (hs : (s.length : Int) ≤ 9223372036854775807) : (encText s).length ≤ s.length + 22 := by
  have := itoa_len s.length ⟨by omega, hs⟩
  simp [encText]; omega
theorem flat_snoc {α : Type} (enc : α → List UInt8) (xs : List α) (k : Nat) (h : k < xs.length) : ((xs.take (k + 1)).map enc).flatten = ((xs.take k).map enc).flatten ++ enc xs[k] := by
  rw [List.take_add_one, List.getElem?_eq_getElem h]
  simp only [Option.toList_some, List.map_append, List.map_cons, List.map_nil, List.flatten_append, List.flatten_cons, List.flatten_nil, List.append_nil]
theorem flat_le {α : Type} (enc : α → List UInt8) (xs : List α) (k : Nat) : ((xs.take k).map enc).flatten.length ≤ (xs.map enc).flatten.length := by
  conv => rhs; rw [← List.take_append_drop k xs]
  rw [List.map_append, List.flatten_append, List.length_append]
  omega
theorem IsBuilder.below {T e : TypeId} {B b : Nat} {bs : List Value} {w w' : World} (h : IsBuilder T e B b bs w) (hb : Below w.heap.size w w') : IsBuilder T e B b bs w' := by
  have key : ∀ p, BuilderAt T e B b p bs w → BuilderAt T e B b p bs w' := by
    rintro p ⟨hB, v, hh, hown, hne⟩
    have hlt := (Array.getElem?_eq_some_iff.1 hh).1
    refine ⟨hB, v, by rw [hb.block _ hlt]; exact hh, ?_, hne⟩
    exact hown.kept (grown_of_below hb none) (by
      rcases hown.2 with ⟨rfl, _⟩ | ⟨g, cap, cur, rfl, _⟩
      · left; rfl
      · right; simp [Value.ownBlock])
  exact h.imp (key _) (key _)
theorem encodedNum_ok (xs : List (Int)) (v : Value) {K : Value → World → Prop} {w : World} (hl : Laid w) (hrow : RowOf intV w v xs) (hx : ∀ x ∈ xs, InR x) (hlen : (encList (xs.map encInt)).length < 2^40)
    (k : ∀ w', Below w.heap.size w w' → K (.string ⟨(encList (xs.map encInt)).toArray⟩) w') : callM Tryz.prog 167 #[v, .func (.func 168) #[] #[]] K w := by
  apply sh_167_ok
  unfold sh_167
  have hsz : (encList (xs.map encInt)).length = (itoa (xs.length : Nat)).length + 1 + ((xs.map encInt).flatten).length + 1 := by simp [encList]; omega
  have hxl : xs.length ≤ (xs.map encInt).flatten.length := by
    rw [List.length_flatten]
    clear hrow hlen hsz k
    induction xs with
    | nil => simp
    | cons x xs ih =>
      have := ih (fun y hy => hx y (List.mem_cons_of_mem _ hy))
      have h1 : 1 ≤ (encInt x).length := by simp [encInt]; try omega
      simp only [List.length_cons, List.map_cons, List.sum_cons]
      omega
  have hin : InR (xs.length : Nat) := ⟨by omega, by omega⟩
  have hil := itoa_len _ hin
  obtain ⟨ad, c, rfl, hcell⟩ := hrow
  have hl0 : Laid (w.alloc (.cells #[.pointer none, .slice none 0 0] 209)) := hl.below ((Below.refl _ _).alloc (Nat.le_refl _) _) hl.size
  repeat (any_goals ((with_reducible refine idO ?_); (with_reducible refine oM_gen fun Kv hK=>?_); simp [go_sem]; refine hK _ _ ?_; clear hK; clear Kv))
  refine itoa_ok _ hin hl0 (fun w1 hb1 => ?_)
  have hb1' : Below w.heap.size w w1 := ((Below.refl _ _).alloc (Nat.le_refl _) _).trans (hb1.mono (by simp))
  have hB1 := IsBuilder.below (fresh_isBuilder 209 5 w) hb1
  have hz1 := hb1'.size
  repeat (any_goals ((with_reducible refine idO ?_); (with_reducible refine oM_gen fun Kv hK=>?_); simp [go_sem]; refine And.intro (by omega) (hK _ _ ?_); clear hK; clear Kv))
  refine writeString_ok w.heap.size _ [] _ _ hB1 (by simp; omega) (by omega) ?_
  intro w2 hB2 hb2
  have hb2' := hb1'.trans hb2
  repeat (any_goals ((with_reducible refine idO ?_); (with_reducible refine oM_gen fun Kv hK=>?_); simp [go_sem]; refine hK _ _ ?_; clear hK; clear Kv))
  refine ⟨fun l w' => ∃ (x : Value) (k : Nat), l = [x, .int .i64 k] ∧ k ≤ xs.length ∧ IsBuilder 209 5 w.heap.size w.heap.size (Lib.byteCells (itoa (xs.length : Nat) ++ 91 :: ((xs.take k).map encInt).flatten)) w' ∧ Below w.heap.size w w', fun l _ => xs.length - (match l with | [_, .int _ n] => n.toNat | _ => 0), ⟨_, 0, rfl, by omega, by simpa using hB2, hb2'⟩, ?_⟩
  rintro _ _ w3 ⟨x, j, rfl, hj, hB3, hb3⟩
  have hz3 := hb3.size
  simp only [List.getD_cons_zero, List.getD_cons_succ]
  have hfl := flat_le encInt xs j
  by_cases hlt : j < xs.length
  · rcases hcell with rfl | ⟨b, o, rfl, hbw, hcells⟩
    · simp at hlt
    have hc := hcells j hlt
    rw [← hb3.cell hbw] at hc
    simp only [intV] at hc
    have hix := idx22 (b := b) (o := o) (c := c) hlt w3
    have hl3 : Laid w3 := hl.below hb3 hl.size
    have hP := hx xs[j] (List.getElem_mem hlt)
    have hfl1 := flat_le encInt xs (j + 1)
    rw [flat_snoc _ _ _ hlt, List.length_append] at hfl1
    repeat (any_goals (first
    | (rw [oM_indexAddr, hix, rM_ok])
    | (with_reducible ((refine idCond ?_); refine yN ?_))
    | ((with_reducible refine idO ?_); (with_reducible refine oM_gen fun Kv hK=>?_); simp [go_sem, hc]; refine hK _ _ ?_; clear hK; clear Kv)))
    refine oM_callv1 (by kernel_rfl) ?_
    refine pInt_ok _ hP hl3 ?_
    intro w4 hb4
    have hz4 := hb4.size
    have hB4 : IsBuilder 209 5 w.heap.size w.heap.size (Lib.byteCells (itoa (xs.length : Nat) ++ 91 :: ((xs.take j).map encInt).flatten)) w4 := IsBuilder.below hB3 hb4
    refine writeString_ok w.heap.size _ _ _ _ hB4 (by simp only [List.length_append, List.length_cons]; omega) (by omega) ?_
    intro w5 hB5 hb5
    repeat (any_goals ((with_reducible refine idO ?_); (with_reducible refine oM_gen fun Kv hK=>?_); simp [go_sem]; (try simp (disch := omega) only [wrapI64, wrapU8, wrapU32, wrapU64]); refine hK _ _ ?_; clear hK; clear Kv))
    refine ⟨⟨_, j + 1, rfl, hlt, ?_, (hb3.trans (hb4.mono hz3)).trans hb5⟩, by simp; omega⟩
    rw [flat_snoc _ _ _ hlt]
    simpa using hB5
  · obtain rfl : j = xs.length := by omega
    rw [List.take_length] at hB3 hfl
    obtain ⟨F, hF⟩ : ∃ F, F = (xs.map encInt).flatten := ⟨_, rfl⟩
    rw [← hF] at hB3 hfl hsz
    repeat (any_goals (first
    | (with_reducible ((refine idCond ?_); refine yM ?_))
    | ((with_reducible refine idO ?_); (with_reducible refine oM_gen fun Kv hK=>?_); simp [go_sem]; refine hK _ _ ?_; clear hK; clear Kv)))
    refine builderString_ok _ _ _ _ hB3 (by omega) ?_
    intro w4 hb4
    repeat (any_goals ((with_reducible refine idO ?_); (with_reducible refine oM_gen fun Kv hK=>?_); simp [go_sem]; refine And.intro (by omega) (hK _ _ ?_); clear hK; clear Kv))
    exact K_eq (k _ (hb3.trans hb4)) (by simp [encList, hF])
theorem pNums_ok (xs : List (Int)) (v : Value) {K : Value → World → Prop} {w : World} (hl : Laid w) (hrow : RowOf intV w v xs) (hx : ∀ x ∈ xs, InR x) (hlen : (encList (xs.map encInt)).length < 2^40)
    (k : ∀ w', Below w.heap.size w w' → K (.string ⟨(encList (xs.map encInt)).toArray⟩) w') : callM Tryz.prog 123 #[v] K w := by
  apply sh_123_ok
  unfold sh_123
  skip
  exact encodedNum_ok xs v hl hrow hx hlen k
end Go.Proofs.Cd
namespace Go.Proofs.Cd
open Go Go.Sh Go.RowKit Go.Lib CodeSpec
set_option linter.unusedSimpArgs false
set_option maxRecDepth 10000
def IsRd (w : World) (b : Nat) (r : Rd) : Prop := w.heap[b]? = some (.cells #[.string ⟨r.rest.toArray⟩, .bool r.bad] 187 (0, 0))
theorem IsRd.c0 {w : World} {b : Nat} {r : Rd} (h : IsRd w b r) : w.cell? ⟨b, 0, none⟩ = some (.string ⟨r.rest.toArray⟩) := by
  unfold IsRd at h; simp [World.cell?, h]
theorem IsRd.c1 {w : World} {b : Nat} {r : Rd} (h : IsRd w b r) : w.cell? ⟨b, 1, none⟩ = some (.bool r.bad) := by
  unfold IsRd at h; simp [World.cell?, h]
theorem IsRd.fz {w : World} {b : Nat} {r : Rd} (h : IsRd w b r) (i : Nat) : w.frozen? ⟨b, i, none⟩ = false := by
  unfold IsRd at h; simp [World.frozen?, h]
theorem IsRd.lt {w : World} {b : Nat} {r : Rd} (h : IsRd w b r) : b < w.heap.size := (Array.getElem?_eq_some_iff.1 h).1
theorem heap_set {w : World} {b i : Nat} {cs : Array Value} {T : TypeId} {f : Nat × Nat} (h : w.heap[b]? = some (.cells cs T f)) (u : Value) : (w.setCell ⟨b, i, none⟩ u).heap[b]? = some (.cells (cs.setIfInBounds i u) T f) := by
  simp [World.setCell, Array.getElem?_modify, h]
theorem IsRd.set1 {w : World} {b : Nat} {r : Rd} (h : IsRd w b r) (t : Bool) : IsRd (w.setCell ⟨b, 1, none⟩ (.bool t)) b ⟨r.rest, t⟩ := by
  unfold IsRd at h ⊢
  rw [heap_set h]; rfl
theorem IsRd.below {w w' : World} {b : Nat} {r : Rd} (h : IsRd w b r) {B : Nat} (hb : Below B w w') (hB : b < B) : IsRd w' b r := by
  unfold IsRd at h ⊢
  rw [hb.block _ hB]; exact h
theorem IsRd.drew {w : World} {b : Nat} {r : Rd} (h : IsRd w b r) : IsRd w.drew b r := h
end Go.Proofs.Cd
namespace Go.Proofs.Cd
open Go Go.Sh Go.RowKit Go.Lib CodeSpec
set_option linter.unusedSimpArgs false
set_option maxRecDepth 10000
theorem open_ok (s : List UInt8) {K : Value → World → Prop} {w : World} (k : ∀ w', IsRd w' w.heap.size ⟨s, false⟩ → Below w.heap.size w w' → K (.pointer (some ⟨w.heap.size, 0, none⟩)) w') : callM Tryz.prog 110 #[.string ⟨s.toArray⟩] K w := by
  apply sh_110_ok
  unfold sh_110
  repeat (any_goals ((with_reducible refine idO ?_); (with_reducible refine oM_gen fun Kv hK=>?_); simp [go_sem]; refine hK _ _ ?_; clear hK; clear Kv))
  exact k _ (by unfold IsRd; exact heap_alloc_new _ _) ((Below.refl _ _).alloc (Nat.le_refl _) _)
end Go.Proofs.Cd
namespace Go.Proofs.Cd
open Go Go.Sh Go.RowKit Go.Lib CodeSpec
set_option linter.unusedSimpArgs false
set_option maxRecDepth 10000
theorem IsRd.own {w2 w3 : World} {b B : Nat} {e : TypeId} {sz n : Nat} {v : Value} {xs : List Value} {r : Rd} (h : IsRd w2 b r) (hown : w2.ownsRow B e sz v n xs) (hB : b < B) (hg : w2.grownBy w3 v.ownBlock) : IsRd w3 b r := by
  have hlt := h.lt
  unfold IsRd at h ⊢
  rw [hg.block b hlt (fun e => by have := (hown.lt b e.symm).1; omega)]
  exact h
end Go.Proofs.Cd
namespace Go.Proofs
open Go Go.Sh Go.RowKit FdSpec TkSpec CodeSpec
set_option linter.unusedSimpArgs false
set_option linter.unusedVariables false
set_option maxRecDepth 10000
def tktL (t : Tkt) : List Int := [t.mark, t.first, t.z, t.a, t.b, t.r]
def encM (t : Tkt) : Bytes := encNums (tktL t)
theorem InR_iff (n : Int) : InR n ↔ I64 n := by unfold InR I64; omega
theorem TktR.all {t : Tkt} (h : TktR t) : ∀ n ∈ tktL t, I64 n := by
  intro n hn
  simp only [tktL, List.mem_cons, List.not_mem_nil, or_false] at hn
  rcases hn with rfl | rfl | rfl | rfl | rfl | rfl
  · exact h.mark
  · exact h.first
  · exact h.z
  · exact h.a
  · exact h.b
  · exact h.r
theorem encM_len {t : Tkt} (h : TktR t) : (encM t).length ≤ 200 := by
  have hi := fun n (hn : n ∈ tktL t) => Cd.encInt_len n ((InR_iff n).2 (h.all n hn))
  have h6 := itoa_len 6 (by unfold InR; omega)
  simp only [encM, encNums, encList, tktL, List.map_cons, List.map_nil, List.length_cons, List.length_nil, List.flatten_cons, List.flatten_nil, List.length_append, List.append_nil] at *
  have a1 := hi t.mark (by simp)
  have a2 := hi t.first (by simp)
  have a3 := hi t.z (by simp)
  have a4 := hi t.a (by simp)
  have a5 := hi t.b (by simp)
  have a6 := hi t.r (by simp)
  have h6' : (Lib.itoa ((0 + 1 + 1 + 1 + 1 + 1 + 1 : Nat) : Int)).length ≤ 20 := h6
  omega
section
variable {K : Value → World → Prop} {w w0 w1 : World} {L : List (Addr × Value)}
theorem sz_tkt (w : World) : (sizeOf 41).run Tryz.prog w = .ok 6 w := by kernel_rfl
theorem al_tkt (w : World) : (Instr.alloc 41 true (.tuple #[])).run Tryz.prog w = .ok (.pointer (some ⟨w.heap.size, 0, none⟩)) (w.alloc (.cells [.int .i64 0, .int .i64 0, .int .i64 0, .int .i64 0, .int .i64 0, .int .i64 0].toArray 41)) := by kernel_rfl
theorem tkt_one (t : Tkt) : ∀ u ∈ tktC t, u.oneCell' = true := by
  intro u hu
  simp only [tktC, List.mem_cons, List.not_mem_nil, or_false] at hu
  rcases hu with rfl | rfl | rfl | rfl | rfl | rfl <;> rfl
theorem store_tkt {K : Value → World → Prop} {T' : TypeId} {g : Nat} (t : Tkt) (hk : KnM w0 L g 6 w)
    (k : ∀ W, KnM w0 L g 6 W → cellsAre W (cellsOf [] g 0 (tktC t)) → K undef W) : oM Tryz.prog (.store 41 (.tmp 0) (.tmp 1)) T' [.pointer (some ⟨g, 0, none⟩), tktV t] K w :=
  store_mine sz_tkt rfl rfl (tkt_one t) hk k
theorem local_tkt {K : Value → World → Prop} {T' T2 : TypeId} (t : Tkt) (hk : Kn w0 L w)
    (k : ∀ b W, Kn w0 (cellsOf L b 0 (tktC t)) W → Below w.heap.size w W → w.heap.size ≤ b → K (.pointer (some ⟨b, 0, none⟩)) W) :
    oM Tryz.prog (.alloc 41) T' [] (fun v w => oM Tryz.prog (.store 41 (.tmp 0) (.tmp 1)) T2 [v, tktV t] (fun _ w => K v w) w) w :=
  local_kn al_tkt rfl sz_tkt rfl rfl (tkt_one t) hk k
theorem mk6 {T : TypeId} (t : Tkt) (ht : TktR t) (k : ∀ v W, Below w.heap.size w W → Ints W v (tktL t) → K v W) : oM Tryz.prog (.buildSlice 22 6 #[(0, .tmp 0), (1, .tmp 1), (2, .tmp 2), (3, .tmp 3), (4, .tmp 4), (5, .tmp 5)]) T [.int .i64 t.mark, .int .i64 t.first, .int .i64 t.z, .int .i64 t.a, .int .i64 t.b, .int .i64 t.r] K w := by
  rw [rM_of (S := Instr.buildSlice 22 6 #[(0, .int .i64 t.mark), (1, .int .i64 t.first), (2, .int .i64 t.z), (3, .int .i64 t.a), (4, .int .i64 t.b), (5, .int .i64 t.r)]) (by simp [xop, execOp, evalL, evE])]
  have e : (Instr.buildSlice 22 6 #[(0, .int .i64 t.mark), (1, .int .i64 t.first), (2, .int .i64 t.z), (3, .int .i64 t.a), (4, .int .i64 t.b), (5, .int .i64 t.r)]).run Tryz.prog w = .ok (.slice (some ⟨w.heap.size, 0, none⟩) 6 6) (w.alloc (.cells #[.int .i64 t.mark, .int .i64 t.first, .int .i64 t.z, .int .i64 t.a, .int .i64 t.b, .int .i64 t.r] 3)) := by kernel_rfl
  rw [e]
  exact k _ _ ((Below.refl _ w).alloc (Nat.le_refl _) _) (ints_alloc w (tktL t) _ 6 ht.all (by simp [tktL]))
theorem Ints.rowOf {v : Value} {l : List Int} (h : Ints w v l) : Cd.RowOf Cd.intV w v l := by
  obtain ⟨⟨ad, c, rfl, h0, hc⟩, hr, hl⟩ := h
  refine ⟨ad, c, rfl, hc.imp id ?_⟩
  rintro ⟨b, o, rfl, hlt, hcell⟩
  exact ⟨b, o, rfl, hlt, fun i hi => hcell i _ (by rw [flat_int]; simp [hi, Cd.intV])⟩
theorem Encode_ok (t : Tkt) (ht : TktR t) (hl : Cd.Laid w) (k : ∀ w', Below w.heap.size w w' → K (.string ⟨(encM t).toArray⟩) w') : callM Tryz.prog 56 #[tktV t] K w := by
  apply sh_56_ok
  unfold sh_56
  refine box_kn (cs := tktC t) rfl (.start w) fun b W hk hb1 hb => ?_
  repeat (any_goals (first
  | ((with_reducible refine mk6 t ht ?_); intro v8 W8 hb8 hi)
  | ((with_reducible refine idO ?_); (with_reducible refine oM_gen fun Kv hK=>?_); simp [go_sem, hk.cells]; refine hK _ _ ?_; clear hK; clear Kv)))
  have hk := hk.next hb8
  refine Cd.pNums_ok (tktL t) v8 (hl.below hk.below hl.size) (Ints.rowOf hi) (fun x hx => (InR_iff x).2 (ht.all x hx)) (by have := encM_len ht; unfold encM encNums at this; omega) (fun w' hb' => ?_)
  exact k _ (hk.next hb').below
end
end Go.Proofs
namespace Go.Proofs
open Go Go.Sh Go.RowKit FdSpec TkSpec CodeSpec
set_option linter.unusedSimpArgs false
set_option linter.unusedVariables false
set_option maxRecDepth 10000
section
@[go_sem] theorem eql_tkt (T : TypeId) (a b : Tkt) : oM Tryz.prog (.binOp .eql 41 (.tmp 0) (.tmp 1) 41) T [tktV a, tktV b] = pureM (.bool (decide (a = b))) := by
  funext K w
  have h1 : (eqGuard .eql 41 (.tmp 0) (.tmp 1) (tktV a) (tktV b)).run Tryz.prog w = .ok () w := run_eqGuard_agg w _ _ _ _ _ _ (by kernel_rfl)
  have h2 : (binOp .eql 41 (tktV a) (tktV b)).run Tryz.prog w = .ok (.bool (decide (a = b))) w := by
    rw [run_eql_struct, run_equalIn_agg w 9999 41 _ _ (by kernel_rfl) (by kernel_rfl)]
    have u3 := Tryz.underlying3
    have e : decide (a = b) = ((a.mark == b.mark) && (a.first == b.first) && (a.z == b.z) && (a.a == b.a) && (a.b == b.b) && (a.r == b.r)) := by
      obtain ⟨a1, a2, a3, a4, a5, a6⟩ := a
      obtain ⟨b1, b2, b3, b4, b5, b6⟩ := b
      simp [Tkt.mk.injEq, and_assoc, Bool.and_assoc]
      rfl
    rw [e]
    simp [go_sem, Program.fieldsOf, Tryz.underlying41, Op.eqFields, part, u3]
    repeat' split
    all_goals simp_all
  unfold oM opM
  simp [xop, execOp, evalL, evE, h1, h2]
  exact Iff.rfl
@[go_sem] theorem eql_off (T : TypeId) (a b : Off) : oM Tryz.prog (.binOp .eql 37 (.tmp 0) (.tmp 1) 37) T [offV a, offV b] = pureM (.bool (decide (a = b))) := by
  funext K w
  have h1 : (eqGuard .eql 37 (.tmp 0) (.tmp 1) (offV a) (offV b)).run Tryz.prog w = .ok () w := run_eqGuard_agg w _ _ _ _ _ _ (by kernel_rfl)
  have h2 : (binOp .eql 37 (offV a) (offV b)).run Tryz.prog w = .ok (.bool (decide (a = b))) w := by
    rw [run_eql_struct, run_equalIn_agg w 9999 37 _ _ (by kernel_rfl) (by kernel_rfl)]
    have u3 := Tryz.underlying3
    have e : decide (a = b) = ((a.z == b.z) && (a.a == b.a) && (a.b == b.b)) := by
      obtain ⟨a1, a2, a3⟩ := a
      obtain ⟨b1, b2, b3⟩ := b
      simp [Off.mk.injEq, and_assoc, Bool.and_assoc]
      rfl
    rw [e]
    simp [go_sem, Program.fieldsOf, Tryz.underlying37, Op.eqFields, part, u3]
    repeat' split
    all_goals simp_all
  unfold oM opM
  simp [xop, execOp, evalL, evE, h1, h2]
  exact Iff.rfl
end
end Go.Proofs
namespace Go.Proofs
open Go Go.Sh Go.RowKit FdSpec TkSpec CodeSpec
set_option linter.unusedSimpArgs false
set_option linter.unusedVariables false
set_option maxRecDepth 10000
theorem dig1 {u : Nat} (h : u < 10) : Lib.decDigits u = [UInt8.ofNat (48 + u)] := by rw [Lib.decDigits]; simp [h]
theorem dig2 {u : Nat} (h : 10 ≤ u) (h2 : u < 100) : Lib.decDigits u = [UInt8.ofNat (48 + u / 10), UInt8.ofNat (48 + u % 10)] := by
  rw [Lib.decDigits, dif_neg (by omega), dig1 (by omega)]; rfl
theorem enc_t0 : encM t0 = [54, 91, 56, 59, 49, 56, 59, 57, 59, 49, 54, 59, 49, 51, 59, 48, 59, 93] := by
  have e0 : Lib.itoa (0 : Int) = [48] := by rw [Lib.itoa, if_neg (by omega)]; simp [dig1]
  have e6 : Lib.itoa (6 : Int) = [54] := by rw [Lib.itoa, if_neg (by omega)]; simp [dig1]
  have e8 : Lib.itoa (8 : Int) = [56] := by rw [Lib.itoa, if_neg (by omega)]; simp [dig1]
  have e9 : Lib.itoa (9 : Int) = [57] := by rw [Lib.itoa, if_neg (by omega)]; simp [dig1]
  have e18 : Lib.itoa (18 : Int) = [49, 56] := by rw [Lib.itoa, if_neg (by omega)]; simp [dig2]
  have e16 : Lib.itoa (16 : Int) = [49, 54] := by rw [Lib.itoa, if_neg (by omega)]; simp [dig2]
  have e13 : Lib.itoa (13 : Int) = [49, 51] := by rw [Lib.itoa, if_neg (by omega)]; simp [dig2]
  simp [encM, encNums, encList, tktL, t0, encInt, e0, e6, e8, e9, e18, e16, e13]
section
variable {K : Value → World → Prop} {w w0 w1 : World} {L : List (Addr × Value)}
theorem mk3 {T : TypeId} (x y z : Int) (hx : I64 x) (hy : I64 y) (hz : I64 z) (k : ∀ ad c W, Below w.heap.size w W → Ints W (.slice ad 3 c) [x, y, z] → K (.slice ad 3 c) W) : oM Tryz.prog (.buildSlice 22 3 #[(0, .tmp 0), (1, .tmp 1), (2, .tmp 2)]) T [.int .i64 x, .int .i64 y, .int .i64 z] K w := by
  rw [oM_buildSlice3]
  have e : (Instr.buildSlice 22 3 #[(0, .int .i64 x), (1, .int .i64 y), (2, .int .i64 z)]).run Tryz.prog w = .ok (.slice (some ⟨w.heap.size, 0, none⟩) 3 3) (w.alloc (.cells #[.int .i64 x, .int .i64 y, .int .i64 z] 3)) := by kernel_rfl
  rw [e]
  exact k _ _ _ ((Below.refl _ w).alloc (Nat.le_refl _) _) (ints_alloc w [x, y, z] _ 3 (by simp; exact ⟨hx, hy, hz⟩) (by simp))
theorem sz_stp (w : World) : (sizeOf 32).run Tryz.prog w = .ok 5 w := by kernel_rfl
theorem al_stp (w : World) : (Instr.alloc 32 true (.tuple #[])).run Tryz.prog w = .ok (.pointer (some ⟨w.heap.size, 0, none⟩)) (w.alloc (.cells [.int .i64 0, .int .i64 0, .int .i64 0, .slice none 0 0, .int .i64 0].toArray 32)) := by kernel_rfl
theorem sz_bld (w : World) : (sizeOf 45).run Tryz.prog w = .ok 4 w := by kernel_rfl
theorem al_bld (w : World) : (Instr.alloc 45 true (.tuple #[])).run Tryz.prog w = .ok (.pointer (some ⟨w.heap.size, 0, none⟩)) (w.alloc (.cells [.int .i64 0, .int .i64 0, .int .i64 0, .slice none 0 0].toArray 45)) := by kernel_rfl
theorem bld_one (b : Bld) (ad : Option Addr) (n c : Nat) : ∀ u ∈ bldC b (.slice ad n c), u.oneCell' = true := by
  intro u hu
  simp only [bldC, List.mem_cons, List.not_mem_nil, or_false] at hu
  rcases hu with rfl | rfl | rfl | rfl <;> rfl
theorem local_stp {K : Value → World → Prop} {T' T2 : TypeId} (s : Stp) (ad : Option Addr) (m c : Nat) (hk : Kn w0 L w)
    (k : ∀ b W, Kn w0 (cellsOf L b 0 (stpC s (.slice ad m c))) W → Below w.heap.size w W → w.heap.size ≤ b → K (.pointer (some ⟨b, 0, none⟩)) W) :
    oM Tryz.prog (.alloc 32) T' [] (fun v w => oM Tryz.prog (.store 32 (.tmp 0) (.tmp 1)) T2 [v, stpV s (.slice ad m c)] (fun _ w => K v w) w) w :=
  local_kn al_stp rfl sz_stp rfl rfl (stp_one s ad m c) hk k
theorem local_bld {K : Value → World → Prop} {T' T2 : TypeId} (b : Bld) (ad : Option Addr) (m c : Nat) (hk : Kn w0 L w)
    (k : ∀ g W, Kn w0 (cellsOf L g 0 (bldC b (.slice ad m c))) W → Below w.heap.size w W → w.heap.size ≤ g → K (.pointer (some ⟨g, 0, none⟩)) W) :
    oM Tryz.prog (.alloc 45) T' [] (fun v w => oM Tryz.prog (.store 45 (.tmp 0) (.tmp 1)) T2 [v, bldV b (.slice ad m c)] (fun _ w => K v w) w) w :=
  local_kn al_bld rfl sz_bld rfl rfl (bld_one b ad m c) hk k
theorem local_off {K : Value → World → Prop} {T' T2 : TypeId} (o : Off) (hk : Kn w0 L w)
    (k : ∀ g W, Kn w0 (cellsOf L g 0 [.int .i64 o.z, .int .i64 o.a, .int .i64 o.b]) W → Below w.heap.size w W → w.heap.size ≤ g → K (.pointer (some ⟨g, 0, none⟩)) W) :
    oM Tryz.prog (.alloc 37) T' [] (fun v w => oM Tryz.prog (.store 37 (.tmp 0) (.tmp 1)) T2 [v, offV o] (fun _ w => K v w) w) w :=
  local_kn al_off rfl sz_off rfl rfl (off_one o) hk k
theorem local_spe {K : Value → World → Prop} {T' T2 : TypeId} (x : Spd) (ad : Option Addr) (m c : Nat) (hk : Kn w0 L w)
    (k : ∀ g W, Kn w0 (cellsOf L g 0 (spdC x (.slice ad m c))) W → Below w.heap.size w W → w.heap.size ≤ g → K (.pointer (some ⟨g, 0, none⟩)) W) :
    oM Tryz.prog (.alloc 49) T' [] (fun v w => oM Tryz.prog (.store 49 (.tmp 0) (.tmp 1)) T2 [v, spdV x (.slice ad m c)] (fun _ w => K v w) w) w :=
  local_kn al_spd rfl sz_spd rfl rfl (spd_one x ad m c) hk k
theorem i64lit {n : Int} (h : -9223372036854775808 ≤ n ∧ n < 9223372036854775808 := by decide) : I64 n := h
structure SE (sv av yv : Value) (w' : World) : Prop where
  setup : SetR w' s0 sv
  at' : Ints w' av [5, 7]
  bl : BldR w' b0 yv
  ld : Cd.Laid w'
theorem SE.next {sv av yv : Value} {w w' : World} (h : SE sv av yv w) (hb : Below w.heap.size w w') : SE sv av yv w' :=
  ⟨h.setup.next hb, h.at'.next hb, h.bl.next hb, h.ld.below hb h.ld.size⟩
theorem t0_R : TktR t0 := ⟨i64lit, i64lit, i64lit, i64lit, i64lit, i64lit⟩
@[reducible] def x0 : Spd := ⟨2, [9, 9, 4]⟩
@[reducible] def y0 : Spd := ⟨5, [10, 3, 0]⟩
@[reducible] def z0 : Spd := ⟨3, [9, 9, 4]⟩
theorem sane_ok (hT : DbT w) (hL : Cd.Laid w) (k : ∀ w', Below w.heap.size w w' → K (.bool true) w') : callM Tryz.prog 21 #[] K w := by
  apply sh_21_ok
  unfold sh_21
  obtain ⟨f1, f2, f3, f4, f5, f6, f7, f8, f9, f10, f11, f12, f13, f14, f15⟩ := sane_facts
  have hk : Kn w [] w := .start w
  iterate 1 (any_goals ((with_reducible refine idO ?_); (with_reducible refine oM_gen fun Kv hK=>?_); simp [go_sem]; refine hK _ _ ?_; clear hK; clear Kv))
  refine mk3 4 16 18 i64lit i64lit i64lit (fun ad c W1 hb1 hbs => ?_)
  have hk := hk.next hb1
  have hs : SetR W1 s0 (.slice ad 3 c) := ⟨⟨i64lit, i64lit, i64lit⟩, hbs, i64lit, hT.next hb1⟩
  iterate 1 (any_goals ((with_reducible refine idO ?_); (with_reducible refine oM_gen fun Kv hK=>?_); simp [go_sem]; refine hK _ _ ?_; clear hK; clear Kv))
  refine local_stp s0 ad 3 c hk (fun gs W2 hk hb2 hg2 => ?_)
  refine mk2 5 7 i64lit i64lit (fun v3 W3 hb3 hat => ?_)
  have hk := hk.next hb3
  refine mk3 1 2 3 i64lit i64lit i64lit (fun yad yc W4 hb4 hys => ?_)
  have hk := hk.next hb4
  iterate 1 (any_goals ((with_reducible refine idO ?_); (with_reducible refine oM_gen fun Kv hK=>?_); simp [go_sem]; refine hK _ _ ?_; clear hK; clear Kv))
  refine local_bld b0 yad 3 yc hk (fun gb W5 hk hb5 hg5 => ?_)
  have hW1 := (hb2.on hb3).on (hb4.on hb5)
  have E : SE (.slice ad 3 c) v3 (.slice yad 3 yc) W5 := ⟨hs.next hW1, hat.next (hb4.on hb5), ⟨i64lit, i64lit, i64lit, hys.next hb5⟩, hL.below hk.below hL.size⟩
  repeat (any_goals ((with_reducible refine idO ?_); (with_reducible refine oM_gen fun Kv hK=>?_); simp [go_sem, hk.cells]; refine hK _ _ ?_; clear hK; clear Kv))
  refine Propose_ok s0 3 2 i64lit i64lit E.setup E.at' (fun w1 h1 => ?_)
  rw [f1]
  have hk := hk.next h1
  have E := E.next h1
  iterate 2 (any_goals ((with_reducible refine idO ?_); (with_reducible refine oM_gen fun Kv hK=>?_); simp [go_sem]; refine hK _ _ ?_; clear hK; clear Kv))
  refine local_off ⟨9, 16, 13⟩ hk (fun go W6 hk hb6 hg6 => ?_)
  have E := E.next hb6
  repeat (any_goals ((with_reducible refine idO ?_); (with_reducible refine oM_gen fun Kv hK=>?_); simp [go_sem, hk.cells]; refine hK _ _ ?_; clear hK; clear Kv))
  refine Use_ok s0 b0 2 i64lit E.setup E.at' E.bl (fun w2 ov2 h2 hi2 => ?_)
  rw [f2] at hi2 ⊢
  obtain ⟨ad2, c2, rfl⟩ := hi2.isSlice
  have hk := hk.next h2
  have E := E.next h2
  iterate 2 (any_goals ((with_reducible refine idO ?_); (with_reducible refine oM_gen fun Kv hK=>?_); simp [go_sem]; refine hK _ _ ?_; clear hK; clear Kv))
  refine local_spe x0 ad2 3 c2 hk (fun gx W7 hk hb7 hg7 => ?_)
  have E := E.next hb7
  have X : SpdR W7 x0 (.slice ad2 3 c2) := ⟨i64lit, hi2.next hb7⟩
  repeat (any_goals ((with_reducible refine idO ?_); (with_reducible refine oM_gen fun Kv hK=>?_); simp [go_sem, hk.cells]; refine hK _ _ ?_; clear hK; clear Kv))
  refine Use_ok s0 b0 5 i64lit E.setup E.at' E.bl (fun w3 ov3 h3 hi3 => ?_)
  rw [f3] at hi3 ⊢
  obtain ⟨ad3, c3, rfl⟩ := hi3.isSlice
  have hk := hk.next h3
  have E := E.next h3
  have X := X.next h3
  iterate 2 (any_goals ((with_reducible refine idO ?_); (with_reducible refine oM_gen fun Kv hK=>?_); simp [go_sem]; refine hK _ _ ?_; clear hK; clear Kv))
  refine local_spe y0 ad3 3 c3 hk (fun gy W8 hk hb8 hg8 => ?_)
  have E := E.next hb8
  have X := X.next hb8
  have Y : SpdR W8 y0 (.slice ad3 3 c3) := ⟨i64lit, hi3.next hb8⟩
  iterate 1 (any_goals ((with_reducible refine idO ?_); (with_reducible refine oM_gen fun Kv hK=>?_); simp [go_sem]; refine hK _ _ ?_; clear hK; clear Kv))
  refine local_tkt t0 hk (fun gt W9 hk hb9 hg9 => ?_)
  have E := E.next hb9
  have X := X.next hb9
  have Y := Y.next hb9
  repeat (any_goals ((with_reducible refine idO ?_); (with_reducible refine oM_gen fun Kv hK=>?_); simp [go_sem, hk.cells]; refine hK _ _ ?_; clear hK; clear Kv))
  refine Trace_ok s0 t0 x0 y0 t0_R E.setup X Y (fun w4 ov4 h4 hi4 => ?_)
  rw [f4] at hi4 ⊢
  have hk := hk.next h4
  have E := E.next h4
  have X := X.next h4
  have Y := Y.next h4
  repeat (any_goals ((with_reducible refine idO ?_); (with_reducible refine oM_gen fun Kv hK=>?_); simp [go_sem, hk.cells]; refine hK _ _ ?_; clear hK; clear Kv))
  refine Trace_ok s0 t0 x0 x0 t0_R E.setup X X (fun w5 ov5 h5 hi5 => ?_)
  rw [f5]
  have hk := hk.next h5
  have E := E.next h5
  have X := X.next h5
  have Y := Y.next h5
  have hi4 := hi4.next h5
  repeat (any_goals (first
  | ((with_reducible refine mk3 9 9 4 i64lit i64lit i64lit ?_); intro ad6 c6 w6 h6 hi6)
  | ((with_reducible refine idO ?_); (with_reducible refine oM_gen fun Kv hK=>?_); simp [go_sem, hk.cells]; refine hK _ _ ?_; clear hK; clear Kv)))
  have hk := hk.next h6
  have E := E.next h6
  have X := X.next h6
  have Y := Y.next h6
  have hi4 := hi4.next h6
  refine Same_ok X.answers hi6 (fun w7 h7 => ?_)
  rw [decide_eq_true rfl]
  have hk := hk.next h7
  have E := E.next h7
  have X := X.next h7
  have Y := Y.next h7
  have hi4 := hi4.next h7
  repeat (any_goals (first
  | ((with_reducible refine mk3 10 3 0 i64lit i64lit i64lit ?_); intro ad8 c8 w8 h8 hi8)
  | (with_reducible ((refine idGd ?_); refine zC ?_))
  | ((with_reducible refine idO ?_); (with_reducible refine oM_gen fun Kv hK=>?_); simp [go_sem, hk.cells]; refine hK _ _ ?_; clear hK; clear Kv)))
  have hk := hk.next h8
  have E := E.next h8
  have X := X.next h8
  have Y := Y.next h8
  have hi4 := hi4.next h8
  refine Same_ok Y.answers hi8 (fun w9 h9 => ?_)
  rw [decide_eq_true rfl]
  have hk := hk.next h9
  have E := E.next h9
  have X := X.next h9
  have Y := Y.next h9
  have hi4 := hi4.next h9
  repeat (any_goals (first
  | (with_reducible first|refine pureM_in ?_|((refine idGd ?_); refine zC ?_)|((refine idPick ?_); refine yC ?_))
  | ((with_reducible refine idO ?_); (with_reducible refine oM_gen fun Kv hK=>?_); simp [go_sem, hk.cells]; refine hK _ _ ?_; clear hK; clear Kv)))
  refine Same_ok hi4 E.at' (fun w10 h10 => ?_)
  rw [decide_eq_true rfl]
  have hk := hk.next h10
  have E := E.next h10
  have X := X.next h10
  have Y := Y.next h10
  repeat (any_goals (first
  | ((with_reducible refine local_spe z0 ad2 3 c2 hk ?_); intro gz W11 hk hb11 hg11)
  | (with_reducible first|refine pureM_in ?_|((refine idGd ?_); refine zC ?_)|((refine idPick ?_); refine yC ?_)|((refine idCond ?_); refine yM ?_))
  | ((with_reducible refine idO ?_); (with_reducible refine oM_gen fun Kv hK=>?_); simp [go_sem, hk.cells]; refine hK _ _ ?_; clear hK; clear Kv)))
  have E := E.next hb11
  have X := X.next hb11
  have Y := Y.next hb11
  have Z : SpdR W11 z0 (.slice ad2 3 c2) := ⟨i64lit, X.answers⟩
  refine Mark_ok s0 E.setup E.at' (fun w12 h12 => ?_)
  rw [f6]
  have hk := hk.next h12
  have E := E.next h12
  have X := X.next h12
  have Y := Y.next h12
  have Z := Z.next h12
  repeat (any_goals (first
  | (with_reducible first|refine pureM_in ?_|((refine idGd ?_); refine zA ?_))
  | ((with_reducible refine idO ?_); (with_reducible refine oM_gen fun Kv hK=>?_); simp [go_sem, hk.cells]; refine hK _ _ ?_; clear hK; clear Kv)))
  refine Usable_ok s0 E.setup E.at' (fun w13 h13 => ?_)
  rw [f7]
  have hk := hk.next h13
  have E := E.next h13
  have X := X.next h13
  have Y := Y.next h13
  have Z := Z.next h13
  repeat (any_goals (first
  | ((with_reducible refine mk2 5 0 i64lit i64lit ?_); intro v14 w14 h14 hi14)
  | (with_reducible first|((refine idGd ?_); refine zA ?_)|((refine idPick ?_); refine yB ?_))
  | ((with_reducible refine idO ?_); (with_reducible refine oM_gen fun Kv hK=>?_); simp [go_sem, hk.cells]; refine hK _ _ ?_; clear hK; clear Kv)))
  have hk := hk.next h14
  have E := E.next h14
  have X := X.next h14
  have Y := Y.next h14
  have Z := Z.next h14
  refine Usable_ok s0 E.setup hi14 (fun w15 h15 => ?_)
  rw [f8]
  have hk := hk.next h15
  have E := E.next h15
  have X := X.next h15
  have Y := Y.next h15
  have Z := Z.next h15
  repeat (any_goals (first
  | (with_reducible first|((refine idGd ?_); refine zA ?_)|((refine idPick ?_); refine yB ?_))
  | ((with_reducible refine idO ?_); (with_reducible refine oM_gen fun Kv hK=>?_); simp [go_sem, hk.cells]; refine hK _ _ ?_; clear hK; clear Kv)))
  refine Public_ok s0 3 i64lit E.setup (fun w16 h16 => ?_)
  rw [f9]
  have hk := hk.next h16
  have E := E.next h16
  have X := X.next h16
  have Y := Y.next h16
  have Z := Z.next h16
  repeat (any_goals (first
  | (with_reducible first|((refine idGd ?_); refine zA ?_)|((refine idPick ?_); refine yB ?_))
  | ((with_reducible refine idO ?_); (with_reducible refine oM_gen fun Kv hK=>?_); simp [go_sem, hk.cells]; refine hK _ _ ?_; clear hK; clear Kv)))
  refine Public_ok s0 0 i64lit E.setup (fun w17 h17 => ?_)
  rw [f10]
  have hk := hk.next h17
  have E := E.next h17
  have X := X.next h17
  have Y := Y.next h17
  have Z := Z.next h17
  repeat (any_goals (first
  | (with_reducible first|((refine idGd ?_); refine zA ?_)|((refine idPick ?_); refine yB ?_))
  | ((with_reducible refine idO ?_); (with_reducible refine oM_gen fun Kv hK=>?_); simp [go_sem, hk.cells]; refine hK _ _ ?_; clear hK; clear Kv)))
  rw [eql_off _ ⟨9, 16, 13⟩ ⟨9, 16, 13⟩, decide_eq_true rfl]
  repeat (any_goals (first
  | (with_reducible first|refine pureM_in ?_|((refine idGd ?_); refine zA ?_)|((refine idPick ?_); refine yB ?_))
  | ((with_reducible refine idO ?_); (with_reducible refine oM_gen fun Kv hK=>?_); simp [go_sem, hk.cells]; refine hK _ _ ?_; clear hK; clear Kv)))
  refine Grant_ok s0 3 2 6 i64lit i64lit i64lit E.setup (fun w18 h18 => ?_)
  rw [f11]
  have hk := hk.next h18
  have E := E.next h18
  have X := X.next h18
  have Y := Y.next h18
  have Z := Z.next h18
  repeat (any_goals (first
  | (with_reducible first|((refine idGd ?_); refine zA ?_)|((refine idPick ?_); refine yB ?_))
  | ((with_reducible refine idO ?_); (with_reducible refine oM_gen fun Kv hK=>?_); simp [go_sem, hk.cells]; refine hK _ _ ?_; clear hK; clear Kv)))
  refine Accepts_ok s0 t0 x0 t0_R E.setup X (fun w19 h19 => ?_)
  rw [f12]
  have hk := hk.next h19
  have E := E.next h19
  have X := X.next h19
  have Y := Y.next h19
  have Z := Z.next h19
  repeat (any_goals (first
  | (with_reducible first|((refine idGd ?_); refine zA ?_)|((refine idPick ?_); refine yB ?_))
  | ((with_reducible refine idO ?_); (with_reducible refine oM_gen fun Kv hK=>?_); simp [go_sem, hk.cells]; refine hK _ _ ?_; clear hK; clear Kv)))
  refine Accepts_ok s0 t0 y0 t0_R E.setup Y (fun w20 h20 => ?_)
  rw [f13]
  have hk := hk.next h20
  have E := E.next h20
  have X := X.next h20
  have Y := Y.next h20
  have Z := Z.next h20
  repeat (any_goals (first
  | (with_reducible first|((refine idGd ?_); refine zA ?_)|((refine idPick ?_); refine yB ?_))
  | ((with_reducible refine idO ?_); (with_reducible refine oM_gen fun Kv hK=>?_); simp [go_sem, hk.cells]; refine hK _ _ ?_; clear hK; clear Kv)))
  refine Accepts_ok s0 t0 z0 t0_R E.setup Z (fun w21 h21 => ?_)
  rw [f14]
  have hk := hk.next h21
  have E := E.next h21
  have X := X.next h21
  have Y := Y.next h21
  have Z := Z.next h21
  repeat (any_goals (first
  | (with_reducible first|refine pureM_in ?_|((refine idGd ?_); refine zA ?_)|((refine idPick ?_); refine yB ?_))
  | ((with_reducible refine idO ?_); (with_reducible refine oM_gen fun Kv hK=>?_); simp [go_sem, hk.cells]; refine hK _ _ ?_; clear hK; clear Kv)))
  refine Guilty_ok s0 t0 x0 y0 t0_R E.setup X Y E.at' (fun w22 h22 => ?_)
  rw [f15]
  have hk := hk.next h22
  have E := E.next h22
  have X := X.next h22
  have Y := Y.next h22
  have Z := Z.next h22
  repeat (any_goals (first
  | (with_reducible first|((refine idGd ?_); refine zA ?_)|((refine idPick ?_); refine yB ?_))
  | ((with_reducible refine idO ?_); (with_reducible refine oM_gen fun Kv hK=>?_); simp [go_sem, hk.cells]; refine hK _ _ ?_; clear hK; clear Kv)))
  refine Encode_ok t0 t0_R E.ld (fun w23 h23 => ?_)
  rw [enc_t0]
  have hk := hk.next h23
  repeat (any_goals (first
  | (with_reducible first|((refine idGd ?_); refine zA ?_)|((refine idPick ?_); refine yB ?_))
  | ((with_reducible refine idO ?_); (with_reducible refine oM_gen fun Kv hK=>?_); simp [go_sem]; refine hK _ _ ?_; clear hK; clear Kv)))
  exact k _ hk.below
end
end Go.Proofs
set_option linter.unusedVariables false
set_option maxRecDepth 100000
namespace Go.Proofs
open Go.Sh
def sh_78 (a0 : Value) (a1 : Value) (a2 : Value) (a3 : Value) (a4 : Value) (K : Value → World → Prop) (w : World) : Prop :=
 oM Tryz.prog (.box 32 (.tmp 0)) 0 [a0] (fun v5_1 w =>
 oM Tryz.prog (.box 37 (.tmp 0)) 0 [a3] (fun v8_2 w =>
 oM Tryz.prog (.box 45 (.tmp 0)) 0 [a4] (fun v9_3 w =>
 oM Tryz.prog (.alloc 132) 0 [] (fun v10_4 w =>
 oM Tryz.prog (.load 32 (.tmp 0)) 32 [v5_1] (fun v18_5 w =>
 callM Tryz.prog 67 #[v18_5, a2] (fun v20_6 w =>
 oM Tryz.prog (.extract (.tmp 0) 0) 116 [v20_6] (fun v21_7 w =>
 oM Tryz.prog (.extract (.tmp 0) 1) 3 [v20_6] (fun v22_8 w =>
 oM Tryz.prog (.extract (.tmp 0) 2) 4 [v20_6] (fun v23_9 w =>
 oM Tryz.prog (.alloc 116) 0 [] (fun v12_10 w =>
 oM Tryz.prog (.store 116 (.tmp 0) (.tmp 1)) 0 [v12_10, v21_7] (fun _ w =>
 oM Tryz.prog (.unOp .not 4 (.tmp 0)) 4 [v23_9] (fun v25_11 w =>
 gdM (gd v25_11 false) (oM Tryz.prog (.load 116 (.tmp 0)) 116 [v12_10]) (fun v27_12 w =>
 gdM (gd v25_11 false) (pureM a1) (fun v28_13 w =>
 gdM (gd v25_11 false) (callM Tryz.prog 87 #[v27_12, v28_13]) (fun v29_14 w =>
 gdM (gd v25_11 false) (oM Tryz.prog (.unOp .not 4 (.tmp 0)) 4 [v29_14]) (fun v30_15 w =>
 oM Tryz.prog (.pick (.tmp 0) (.tmp 1) (.tmp 2)) 4 [v25_11, (.bool true), v30_15] (fun v31_16 w =>
 gdM (gd v31_16 false) (oM Tryz.prog (.load 116 (.tmp 0)) 116 [v12_10]) (fun v33_17 w =>
 gdM (gd v31_16 false) (oM Tryz.prog (.fieldAddr 37 (.tmp 0) 0) 0 [v8_2]) (fun v34_18 w =>
 gdM (gd v31_16 false) (oM Tryz.prog (.load 3 (.tmp 0)) 3 [v34_18]) (fun v35_19 w =>
 gdM (gd v31_16 false) (oM Tryz.prog (.fieldAddr 37 (.tmp 0) 1) 0 [v8_2]) (fun v36_20 w =>
 gdM (gd v31_16 false) (oM Tryz.prog (.load 3 (.tmp 0)) 3 [v36_20]) (fun v37_21 w =>
 gdM (gd v31_16 false) (oM Tryz.prog (.fieldAddr 37 (.tmp 0) 2) 0 [v8_2]) (fun v38_22 w =>
 gdM (gd v31_16 false) (oM Tryz.prog (.load 3 (.tmp 0)) 3 [v38_22]) (fun v39_23 w =>
 gdM (gd v31_16 false) (oM Tryz.prog (.buildSlice 22 3 #[(0, (.tmp 0)), (1, (.tmp 1)), (2, (.tmp 2))]) 22 [v35_19, v37_21, v39_23]) (fun v40_24 w =>
 gdM (gd v31_16 false) (callM Tryz.prog 138 #[v33_17, v40_24]) (fun v41_25 w =>
 gdM (gd v31_16 false) (oM Tryz.prog (.unOp .not 4 (.tmp 0)) 4 [v41_25]) (fun v42_26 w =>
 oM Tryz.prog (.pick (.tmp 0) (.tmp 1) (.tmp 2)) 4 [v31_16, (.bool true), v42_26] (fun v43_27 w =>
 gdM (gd v43_27 false) (oM Tryz.prog (.fieldAddr 37 (.tmp 0) 0) 0 [v8_2]) (fun v45_28 w =>
 gdM (gd v43_27 false) (oM Tryz.prog (.load 3 (.tmp 0)) 3 [v45_28]) (fun v46_29 w =>
 gdM (gd v43_27 false) (oM Tryz.prog (.binOp .eql 3 (.tmp 0) (.const (.int .i64 1)) 3) 4 [v46_29]) (fun v47_30 w =>
 oM Tryz.prog (.pick (.tmp 0) (.tmp 1) (.tmp 2)) 4 [v43_27, (.bool true), v47_30] (fun v48_31 w =>
 gdM (gd v48_31 false) (oM Tryz.prog (.load 116 (.tmp 0)) 116 [v12_10]) (fun v50_32 w =>
 gdM (gd v48_31 false) (oM Tryz.prog (.load 45 (.tmp 0)) 45 [v9_3]) (fun v51_33 w =>
 gdM (gd v48_31 false) (callM Tryz.prog 68 #[v50_32, v51_33]) (fun v52_34 w =>
 gdM (gd v48_31 false) (oM Tryz.prog (.unOp .not 4 (.tmp 0)) 4 [v52_34]) (fun v53_35 w =>
 oM Tryz.prog (.pick (.tmp 0) (.tmp 1) (.tmp 2)) 4 [v48_31, (.bool true), v53_35] (fun v54_36 w =>
 condM v54_36
 (oM Tryz.prog (.build 132 #[]) 132 [] (fun v55_37 w =>
 oM Tryz.prog (.store 132 (.tmp 0) (.tmp 1)) 0 [v10_4, v55_37] (fun _ w =>
 ∃ r_38, (do loadVar 132 (← asAddr v10_4) : Sem Value).run Tryz.prog w = .ok r_38 w ∧ K (.tuple #[r_38, (.int .i64 1)]) w) w) w)
 (heldM w (fun C_39 w => (((true : Bool) = true) ∧ (oH Tryz.prog (.load 116 (.tmp 0)) 116 [v12_10] C_39 (fun v56_40 =>
 pureH v22_8 C_39 (fun v57_41 =>
 oH Tryz.prog (.fieldAddr 45 (.tmp 0) 0) 0 [v9_3] C_39 (fun v58_42 =>
 oH Tryz.prog (.load 3 (.tmp 0)) 3 [v58_42] C_39 (fun v59_43 =>
 oH Tryz.prog (.load 116 (.tmp 0)) 116 [v12_10] C_39 (fun v61_44 =>
 oH Tryz.prog (.fieldAddr 45 (.tmp 0) 3) 0 [v9_3] C_39 (fun v62_45 =>
 oH Tryz.prog (.load 22 (.tmp 0)) 22 [v62_45] C_39 (fun v63_46 =>
 oH Tryz.prog (.load 116 (.tmp 0)) 116 [v12_10] C_39 (fun v65_47 =>
 oH Tryz.prog (.fieldAddr 37 (.tmp 0) 0) 0 [v8_2] C_39 (fun v66_48 =>
 oH Tryz.prog (.load 3 (.tmp 0)) 3 [v66_48] C_39 (fun v67_49 =>
 oH Tryz.prog (.fieldAddr 45 (.tmp 0) 0) 0 [v9_3] C_39 (fun v68_50 =>
 oH Tryz.prog (.load 3 (.tmp 0)) 3 [v68_50] C_39 (fun v69_51 =>
 ∃ S_52 : World → World → Prop, ∃ R_53 : Value → World → Prop, (∀ v w w_1, S_52 w w_1 → R_53 v w → R_53 v w_1) ∧
 (∀ w, C_39 w → (callM Tryz.prog 89 #[v56_40, v57_41, v59_43] (fun v w_1 => C_39 w_1 ∧ S_52 w w_1 ∧ R_53 v w_1) w)) ∧
 (∃ R_54 : Value → World → Prop, (∀ v w w_1, S_52 w w_1 → R_54 v w → R_54 v w_1) ∧
 (∀ w, C_39 w → (callM Tryz.prog 90 #[v61_44, v63_46] (fun v w_1 => C_39 w_1 ∧ S_52 w w_1 ∧ R_54 v w_1) w)) ∧
 (∃ R_55 : Value → World → Prop, (∀ v w w_1, S_52 w w_1 → R_55 v w → R_55 v w_1) ∧
 (∀ w, C_39 w → (callM Tryz.prog 89 #[v65_47, v67_49, v69_51] (fun v w_1 => C_39 w_1 ∧ S_52 w w_1 ∧ R_55 v w_1) w)) ∧
 (∃ R_56 : Value → World → Prop, (∀ v w w_1, S_52 w w_1 → R_56 v w → R_56 v w_1) ∧
 (∀ w, C_39 w → ∀ v60_57, R_53 v60_57 w → ∀ v64_58, R_54 v64_58 w → ∀ v70_59, R_55 v70_59 w → (oM Tryz.prog (.build 41 #[(0, (.tmp 0)), (1, (.tmp 1)), (2, (.tmp 2))]) 41 [v60_57, v64_58, v70_59] (fun v w_1 => C_39 w_1 ∧ S_52 w w_1 ∧ R_56 v w_1) w)) ∧
 (∃ R_60 : Value → World → Prop, (∀ v w w_1, S_52 w w_1 → R_60 v w → R_60 v w_1) ∧
 (∀ w, C_39 w → (oM Tryz.prog (.alloc 41) 0 [] (fun v w_1 => C_39 w_1 ∧ S_52 w w_1 ∧ R_60 v w_1) w)) ∧
 (∀ w, C_39 w → ∀ v60_61, R_53 v60_61 w → ∀ v64_62, R_54 v64_62 w → ∀ v70_63, R_55 v70_63 w → ∀ v71_64, R_56 v71_64 w → ∀ v15_65, R_60 v15_65 w → (
 oM Tryz.prog (.store 41 (.tmp 0) (.tmp 1)) 0 [v15_65, v71_64] (fun _ w => C_39 w ∧ (
 heldM w (fun C_66 w => (((true : Bool) = true) ∧ (oH Tryz.prog (.load 116 (.tmp 0)) 116 [v12_10] C_66 (fun v72_67 =>
 oH Tryz.prog (.load 116 (.tmp 0)) 116 [v12_10] C_66 (fun v73_68 =>
 oH Tryz.prog (.fieldAddr 37 (.tmp 0) 1) 0 [v8_2] C_66 (fun v74_69 =>
 oH Tryz.prog (.load 3 (.tmp 0)) 3 [v74_69] C_66 (fun v75_70 =>
 oH Tryz.prog (.fieldAddr 45 (.tmp 0) 1) 0 [v9_3] C_66 (fun v76_71 =>
 oH Tryz.prog (.load 3 (.tmp 0)) 3 [v76_71] C_66 (fun v77_72 =>
 oH Tryz.prog (.load 116 (.tmp 0)) 116 [v12_10] C_66 (fun v79_73 =>
 oH Tryz.prog (.fieldAddr 45 (.tmp 0) 2) 0 [v9_3] C_66 (fun v80_74 =>
 oH Tryz.prog (.load 3 (.tmp 0)) 3 [v80_74] C_66 (fun v81_75 =>
 ∃ S_76 : World → World → Prop, ∀ w, C_66 w → (
 callM Tryz.prog 89 #[v73_68, v75_70, v77_72] (fun v78_77 w => C_66 w ∧ (
 callM Tryz.prog 66 #[v79_73, v81_75] (fun v82_78 w => C_66 w ∧ (
 oM Tryz.prog (.buildSlice 22 1 #[(0, (.tmp 0))]) 22 [v82_78] (fun v83_79 w => C_66 w ∧ (
 callM Tryz.prog 91 #[v72_67, v78_77, v83_79] (fun v84_80 w => C_66 w ∧ (
 oM Tryz.prog (.fieldAddr 41 (.tmp 0) 3) 0 [v15_65] (fun v85_81 w => C_66 w ∧ (
 oM Tryz.prog (.store 3 (.tmp 0) (.tmp 1)) 0 [v85_81, v84_80] (fun _ w => C_66 w ∧ (
 heldM w (fun C_82 w => (((true : Bool) = true) ∧ (oH Tryz.prog (.load 116 (.tmp 0)) 116 [v12_10] C_82 (fun v86_83 =>
 oH Tryz.prog (.load 116 (.tmp 0)) 116 [v12_10] C_82 (fun v87_84 =>
 oH Tryz.prog (.fieldAddr 37 (.tmp 0) 2) 0 [v8_2] C_82 (fun v88_85 =>
 oH Tryz.prog (.load 3 (.tmp 0)) 3 [v88_85] C_82 (fun v89_86 =>
 oH Tryz.prog (.load 116 (.tmp 0)) 116 [v12_10] C_82 (fun v90_87 =>
 oH Tryz.prog (.fieldAddr 45 (.tmp 0) 0) 0 [v9_3] C_82 (fun v91_88 =>
 oH Tryz.prog (.load 3 (.tmp 0)) 3 [v91_88] C_82 (fun v92_89 =>
 oH Tryz.prog (.fieldAddr 45 (.tmp 0) 1) 0 [v9_3] C_82 (fun v93_90 =>
 oH Tryz.prog (.load 3 (.tmp 0)) 3 [v93_90] C_82 (fun v94_91 =>
 oH Tryz.prog (.load 116 (.tmp 0)) 116 [v12_10] C_82 (fun v98_92 =>
 oH Tryz.prog (.fieldAddr 41 (.tmp 0) 0) 0 [v15_65] C_82 (fun v99_93 =>
 oH Tryz.prog (.load 3 (.tmp 0)) 3 [v99_93] C_82 (fun v100_94 =>
 oH Tryz.prog (.fieldAddr 45 (.tmp 0) 2) 0 [v9_3] C_82 (fun v101_95 =>
 oH Tryz.prog (.load 3 (.tmp 0)) 3 [v101_95] C_82 (fun v102_96 =>
 ∃ S_97 : World → World → Prop, ∀ w, C_82 w → (
 oM Tryz.prog (.buildSlice 22 1 #[(0, (.tmp 0))]) 22 [v94_91] (fun v95_98 w => C_82 w ∧ (
 callM Tryz.prog 71 #[v90_87, v92_89, v95_98] (fun v96_99 w => C_82 w ∧ (
 callM Tryz.prog 89 #[v87_84, v89_86, v96_99] (fun v97_100 w => C_82 w ∧ (
 callM Tryz.prog 89 #[v98_92, v100_94, v102_96] (fun v103_101 w => C_82 w ∧ (
 oM Tryz.prog (.buildSlice 22 1 #[(0, (.tmp 0))]) 22 [v103_101] (fun v104_102 w => C_82 w ∧ (
 callM Tryz.prog 91 #[v86_83, v97_100, v104_102] (fun v105_103 w => C_82 w ∧ (
 oM Tryz.prog (.fieldAddr 41 (.tmp 0) 4) 0 [v15_65] (fun v106_104 w => C_82 w ∧ (
 oM Tryz.prog (.store 3 (.tmp 0) (.tmp 1)) 0 [v106_104, v105_103] (fun _ w => C_82 w ∧ (
 oM Tryz.prog (.load 116 (.tmp 0)) 116 [v12_10] (fun v107_105 w =>
 oM Tryz.prog (.load 41 (.tmp 0)) 41 [v15_65] (fun v108_106 w =>
 callM Tryz.prog 76 #[v107_105, v108_106] (fun v109_107 w =>
 oM Tryz.prog (.binOp .eql 3 (.tmp 0) (.const (.int .i64 0)) 3) 4 [v109_107] (fun v111_108 w =>
 condM v111_108
 (oM Tryz.prog (.build 132 #[]) 132 [] (fun v112_109 w =>
 oM Tryz.prog (.store 132 (.tmp 0) (.tmp 1)) 0 [v10_4, v112_109] (fun _ w =>
 ∃ r_110, (do loadVar 132 (← asAddr v10_4) : Sem Value).run Tryz.prog w = .ok r_110 w ∧ K (.tuple #[r_110, (.int .i64 7)]) w) w) w)
 (heldM w (fun C_111 w => (((true : Bool) = true) ∧ (oH Tryz.prog (.load 116 (.tmp 0)) 116 [v12_10] C_111 (fun v113_112 =>
 pureH v22_8 C_111 (fun v114_113 =>
 oH Tryz.prog (.load 116 (.tmp 0)) 116 [v12_10] C_111 (fun v115_114 =>
 pureH v109_107 C_111 (fun v116_115 =>
 oH Tryz.prog (.fieldAddr 45 (.tmp 0) 1) 0 [v9_3] C_111 (fun v117_116 =>
 oH Tryz.prog (.load 3 (.tmp 0)) 3 [v117_116] C_111 (fun v118_117 =>
 oH Tryz.prog (.load 41 (.tmp 0)) 41 [v15_65] C_111 (fun v120_118 =>
 ∃ S_119 : World → World → Prop, ∀ w, C_111 w → (
 callM Tryz.prog 74 #[v115_114, v116_115, v118_117] (fun v119_120 w => C_111 w ∧ (
 oM Tryz.prog (.build 132 #[(0, (.tmp 0)), (1, (.tmp 1)), (2, (.tmp 2)), (3, (.tmp 3))]) 132 [v113_112, v114_113, v119_120, v120_118] (fun v121_121 w => C_111 w ∧ (
 oM Tryz.prog (.store 132 (.tmp 0) (.tmp 1)) 0 [v10_4, v121_121] (fun _ w => C_111 w ∧ (
 C_111 w ∧ (∃ r_122, (do loadVar 132 (← asAddr v10_4) : Sem Value).run Tryz.prog w = .ok r_122 w ∧ K (.tuple #[r_122, (.int .i64 0)]) w))) w)) w)) w))))))))))))) w) w) w) w)) w)) w)) w)) w)) w)) w)) w)) w)))))))))))))))))))) w)) w)) w)) w)) w)) w))))))))))))))) w))))))))))))))))))))))) w) w) w) w) w) w) w) w) w) w) w) w) w) w) w) w) w) w) w) w) w) w) w) w) w) w) w) w) w) w) w) w) w) w) w) w) w
theorem sh_78_eq (a0 : Value) (a1 : Value) (a2 : Value) (a3 : Value) (a4 : Value) (K : Value → World → Prop) (w : World) : sh_78 a0 a1 a2 a3 a4 K w = code Tryz.prog (fun i => bif Nat.beq i 4 then .mono [0, 1, 2, 3, 5, 6, 7, 9, 10, 11, 12, 13] [4, 8, 14, 15, 16] [17] else bif Nat.beq i 5 then .mono [0, 1, 2, 3, 4, 5, 7, 8, 9] [] [6, 10, 11, 12, 13, 14] else bif Nat.beq i 6 then .mono [0, 1, 2, 3, 4, 5, 6, 7, 8, 12, 13, 14, 15, 16] [] [9, 10, 11, 17, 18, 19, 20, 21] else bif Nat.beq i 10 then .mono [0, 1, 2, 3, 4, 5, 7] [] [6, 8, 9, 10] else 0) 122 (Tryz.f78.body.getD .skip) (slotsAt [a0, a1, a2, a3, a4]) (retK Tryz.prog [.cell 10 132, .tmp 11] K) w := by kernel_rfl
theorem sh_78_ok {a0 a1 a2 a3 a4 : Value} {K : Value → World → Prop} {w : World} (h : sh_78 a0 a1 a2 a3 a4 K w) : callM Tryz.prog 78 #[a0, a1, a2, a3, a4] K w :=
  calls_of_code (fun i => bif Nat.beq i 4 then .mono [0, 1, 2, 3, 5, 6, 7, 9, 10, 11, 12, 13] [4, 8, 14, 15, 16] [17] else bif Nat.beq i 5 then .mono [0, 1, 2, 3, 4, 5, 7, 8, 9] [] [6, 10, 11, 12, 13, 14] else bif Nat.beq i 6 then .mono [0, 1, 2, 3, 4, 5, 6, 7, 8, 12, 13, 14, 15, 16] [] [9, 10, 11, 17, 18, 19, 20, 21] else bif Nat.beq i 10 then .mono [0, 1, 2, 3, 4, 5, 7] [] [6, 8, 9, 10] else 0) (fn := Tryz.f78) (rs := [.cell 10 132, .tmp 11]) Tryz.func78 rfl rfl (by kernel_rfl) (Nat.le_of_ble_eq_true rfl) ((sh_78_eq a0 a1 a2 a3 a4 K w).mp h)
def sh_79 (a0 : Value) (a1 : Value) (a2 : Value) (a3 : Value) (a4 : Value) (a5 : Value) (K : Value → World → Prop) (w : World) : Prop :=
 oM Tryz.prog (.box 116 (.tmp 0)) 0 [a0] (fun v6_1 w =>
 oM Tryz.prog (.box 37 (.tmp 0)) 0 [a5] (fun v11_2 w =>
 heldM w (fun C_3 w => (((true : Bool) = true) ∧ (oH Tryz.prog (.load 116 (.tmp 0)) 116 [v6_1] C_3 (fun v13_4 =>
 pureH a4 C_3 (fun v14_5 =>
 oH Tryz.prog (.load 116 (.tmp 0)) 116 [v6_1] C_3 (fun v16_6 =>
 oH Tryz.prog (.load 116 (.tmp 0)) 116 [v6_1] C_3 (fun v17_7 =>
 pureH a1 C_3 (fun v18_8 =>
 pureH a3 C_3 (fun v19_9 =>
 oH Tryz.prog (.fieldAddr 37 (.tmp 0) 1) 0 [v11_2] C_3 (fun v21_10 =>
 oH Tryz.prog (.load 3 (.tmp 0)) 3 [v21_10] C_3 (fun v22_11 =>
 ∃ S_12 : World → World → Prop, ∃ R_13 : Value → World → Prop, (∀ v w w_1, S_12 w w_1 → R_13 v w → R_13 v w_1) ∧
 (∀ w, C_3 w → (callM Tryz.prog 66 #[v13_4, v14_5] (fun v w_1 => C_3 w_1 ∧ S_12 w w_1 ∧ R_13 v w_1) w)) ∧
 (∃ R_14 : Value → World → Prop, (∀ v w w_1, S_12 w w_1 → R_14 v w → R_14 v w_1) ∧
 (∀ w, C_3 w → (callM Tryz.prog 89 #[v17_7, v18_8, v19_9] (fun v w_1 => C_3 w_1 ∧ S_12 w w_1 ∧ R_14 v w_1) w)) ∧
 (∃ R_15 : Value → World → Prop, (∀ v w w_1, S_12 w w_1 → R_15 v w → R_15 v w_1) ∧
 (∀ w, C_3 w → (oM Tryz.prog (.buildSlice 22 1 #[(0, (.tmp 0))]) 22 [v22_11] (fun v w_1 => C_3 w_1 ∧ S_12 w w_1 ∧ R_15 v w_1) w)) ∧
 (∃ R_16 : Value → World → Prop, (∀ v w w_1, S_12 w w_1 → R_16 v w → R_16 v w_1) ∧
 (∀ w, C_3 w → ∀ v20_17, R_14 v20_17 w → ∀ v23_18, R_15 v23_18 w → (callM Tryz.prog 91 #[v16_6, v20_17, v23_18] (fun v w_1 => C_3 w_1 ∧ S_12 w w_1 ∧ R_16 v w_1) w)) ∧
 (∃ R_19 : Value → World → Prop, (∀ v w w_1, S_12 w w_1 → R_19 v w → R_19 v w_1) ∧
 (∀ w, C_3 w → ∀ v15_20, R_13 v15_20 w → ∀ v24_21, R_16 v24_21 w → (oM Tryz.prog (.binOp .eql 3 (.tmp 0) (.tmp 1) 3) 4 [v15_20, v24_21] (fun v w_1 => C_3 w_1 ∧ S_12 w w_1 ∧ R_19 v w_1) w)) ∧
 (∃ R_22 : Value → World → Prop, (∀ v w w_1, S_12 w w_1 → R_22 v w → R_22 v w_1) ∧
 (∀ w, C_3 w → ∀ v25_23, R_19 v25_23 w → (C_3 w ∧ S_12 w w ∧ R_22 v25_23 w)) ∧
 (∃ R_24 : Value → World → Prop, (∀ v w w_1, S_12 w w_1 → R_24 v w → R_24 v w_1) ∧
 (∀ w, C_3 w → ∀ v26_25, R_22 v26_25 w → (gdM (gd v26_25 true) (oM Tryz.prog (.load 116 (.tmp 0)) 116 [v6_1]) (fun v w_1 => C_3 w_1 ∧ S_12 w w_1 ∧ R_24 v w_1) w)) ∧
 (∃ R_26 : Value → World → Prop, (∀ v w w_1, S_12 w w_1 → R_26 v w → R_26 v w_1) ∧
 (∀ w, C_3 w → ∀ v26_27, R_22 v26_27 w → (gdM (gd v26_27 true) (pureM a2) (fun v w_1 => C_3 w_1 ∧ S_12 w w_1 ∧ R_26 v w_1) w)) ∧
 (∃ R_28 : Value → World → Prop, (∀ v w w_1, S_12 w w_1 → R_28 v w → R_28 v w_1) ∧
 (∀ w, C_3 w → ∀ v26_29, R_22 v26_29 w → (gdM (gd v26_29 true) (pureM a4) (fun v w_1 => C_3 w_1 ∧ S_12 w w_1 ∧ R_28 v w_1) w)) ∧
 (∃ R_30 : Value → World → Prop, (∀ v w w_1, S_12 w w_1 → R_30 v w → R_30 v w_1) ∧
 (∀ w, C_3 w → ∀ v26_31, R_22 v26_31 w → ∀ v27_32, R_24 v27_32 w → ∀ v28_33, R_26 v28_33 w → ∀ v29_34, R_28 v29_34 w → (gdM (gd v26_31 true) (callM Tryz.prog 89 #[v27_32, v28_33, v29_34]) (fun v w_1 => C_3 w_1 ∧ S_12 w w_1 ∧ R_30 v w_1) w)) ∧
 (∃ R_35 : Value → World → Prop, (∀ v w w_1, S_12 w w_1 → R_35 v w → R_35 v w_1) ∧
 (∀ w, C_3 w → ∀ v26_36, R_22 v26_36 w → (gdM (gd v26_36 true) (oM Tryz.prog (.load 116 (.tmp 0)) 116 [v6_1]) (fun v w_1 => C_3 w_1 ∧ S_12 w w_1 ∧ R_35 v w_1) w)) ∧
 (∃ R_37 : Value → World → Prop, (∀ v w w_1, S_12 w w_1 → R_37 v w → R_37 v w_1) ∧
 (∀ w, C_3 w → ∀ v26_38, R_22 v26_38 w → (gdM (gd v26_38 true) (oM Tryz.prog (.load 116 (.tmp 0)) 116 [v6_1]) (fun v w_1 => C_3 w_1 ∧ S_12 w w_1 ∧ R_37 v w_1) w)) ∧
 (∃ R_39 : Value → World → Prop, (∀ v w w_1, S_12 w w_1 → R_39 v w → R_39 v w_1) ∧
 (∀ w, C_3 w → ∀ v26_40, R_22 v26_40 w → (gdM (gd v26_40 true) (oM Tryz.prog (.fieldAddr 37 (.tmp 0) 0) 0 [v11_2]) (fun v w_1 => C_3 w_1 ∧ S_12 w w_1 ∧ R_39 v w_1) w)) ∧
 (∃ R_41 : Value → World → Prop, (∀ v w w_1, S_12 w w_1 → R_41 v w → R_41 v w_1) ∧
 (∀ w, C_3 w → ∀ v26_42, R_22 v26_42 w → ∀ v33_43, R_39 v33_43 w → (gdM (gd v26_42 true) (oM Tryz.prog (.load 3 (.tmp 0)) 3 [v33_43]) (fun v w_1 => C_3 w_1 ∧ S_12 w w_1 ∧ R_41 v w_1) w)) ∧
 (∃ R_44 : Value → World → Prop, (∀ v w w_1, S_12 w w_1 → R_44 v w → R_44 v w_1) ∧
 (∀ w, C_3 w → ∀ v26_45, R_22 v26_45 w → (gdM (gd v26_45 true) (pureM a3) (fun v w_1 => C_3 w_1 ∧ S_12 w w_1 ∧ R_44 v w_1) w)) ∧
 (∃ R_46 : Value → World → Prop, (∀ v w w_1, S_12 w w_1 → R_46 v w → R_46 v w_1) ∧
 (∀ w, C_3 w → ∀ v26_47, R_22 v26_47 w → ∀ v32_48, R_37 v32_48 w → ∀ v34_49, R_41 v34_49 w → ∀ v35_50, R_44 v35_50 w → (gdM (gd v26_47 true) (callM Tryz.prog 89 #[v32_48, v34_49, v35_50]) (fun v w_1 => C_3 w_1 ∧ S_12 w w_1 ∧ R_46 v w_1) w)) ∧
 (∃ R_51 : Value → World → Prop, (∀ v w w_1, S_12 w w_1 → R_51 v w → R_51 v w_1) ∧
 (∀ w, C_3 w → ∀ v26_52, R_22 v26_52 w → (gdM (gd v26_52 true) (oM Tryz.prog (.fieldAddr 37 (.tmp 0) 2) 0 [v11_2]) (fun v w_1 => C_3 w_1 ∧ S_12 w w_1 ∧ R_51 v w_1) w)) ∧
 (∃ R_53 : Value → World → Prop, (∀ v w w_1, S_12 w w_1 → R_53 v w → R_53 v w_1) ∧
 (∀ w, C_3 w → ∀ v26_54, R_22 v26_54 w → ∀ v37_55, R_51 v37_55 w → (gdM (gd v26_54 true) (oM Tryz.prog (.load 3 (.tmp 0)) 3 [v37_55]) (fun v w_1 => C_3 w_1 ∧ S_12 w w_1 ∧ R_53 v w_1) w)) ∧
 (∃ R_56 : Value → World → Prop, (∀ v w w_1, S_12 w w_1 → R_56 v w → R_56 v w_1) ∧
 (∀ w, C_3 w → ∀ v26_57, R_22 v26_57 w → ∀ v38_58, R_53 v38_58 w → (gdM (gd v26_57 true) (oM Tryz.prog (.buildSlice 22 1 #[(0, (.tmp 0))]) 22 [v38_58]) (fun v w_1 => C_3 w_1 ∧ S_12 w w_1 ∧ R_56 v w_1) w)) ∧
 (∀ w, C_3 w → ∀ v15_59, R_13 v15_59 w → ∀ v20_60, R_14 v20_60 w → ∀ v23_61, R_15 v23_61 w → ∀ v24_62, R_16 v24_62 w → ∀ v25_63, R_19 v25_63 w → ∀ v26_64, R_22 v26_64 w → ∀ v27_65, R_24 v27_65 w → ∀ v28_66, R_26 v28_66 w → ∀ v29_67, R_28 v29_67 w → ∀ v30_68, R_30 v30_68 w → ∀ v31_69, R_35 v31_69 w → ∀ v32_70, R_37 v32_70 w → ∀ v33_71, R_39 v33_71 w → ∀ v34_72, R_41 v34_72 w → ∀ v35_73, R_44 v35_73 w → ∀ v36_74, R_46 v36_74 w → ∀ v37_75, R_51 v37_75 w → ∀ v38_76, R_53 v38_76 w → ∀ v39_77, R_56 v39_77 w → (
 gdM (gd v26_64 true) (callM Tryz.prog 91 #[v31_69, v36_74, v39_77]) (fun v40_78 w => C_3 w ∧ (
 gdM (gd v26_64 true) (oM Tryz.prog (.binOp .eql 3 (.tmp 0) (.tmp 1) 3) 4 [v30_68, v40_78]) (fun v41_79 w => C_3 w ∧ (
 oM Tryz.prog (.pick (.tmp 0) (.tmp 1) (.tmp 2)) 4 [v26_64, v41_79, (.bool false)] (fun v42_80 w => C_3 w ∧ (
 C_3 w ∧ (K v42_80 w))) w)) w)) w)))))))))))))))))))))))))))))))) w) w
theorem sh_79_eq (a0 : Value) (a1 : Value) (a2 : Value) (a3 : Value) (a4 : Value) (a5 : Value) (K : Value → World → Prop) (w : World) : sh_79 a0 a1 a2 a3 a4 a5 K w = code Tryz.prog (fun _ => .mono [0, 1, 3, 4, 5, 6, 8, 9] [2, 7, 10, 11, 12, 13, 14, 15, 16, 17, 18, 19, 20, 21, 22, 23, 24, 25, 26] [27, 28, 29, 30]) 43 (Tryz.f79.body.getD .skip) (slotsAt [a0, a1, a2, a3, a4, a5]) (retK Tryz.prog [.tmp 12] K) w := by kernel_rfl
theorem sh_79_ok {a0 a1 a2 a3 a4 a5 : Value} {K : Value → World → Prop} {w : World} (h : sh_79 a0 a1 a2 a3 a4 a5 K w) : callM Tryz.prog 79 #[a0, a1, a2, a3, a4, a5] K w :=
  calls_of_code (fun _ => .mono [0, 1, 3, 4, 5, 6, 8, 9] [2, 7, 10, 11, 12, 13, 14, 15, 16, 17, 18, 19, 20, 21, 22, 23, 24, 25, 26] [27, 28, 29, 30]) (fn := Tryz.f79) (rs := [.tmp 12]) Tryz.func79 rfl rfl (by kernel_rfl) (Nat.le_of_ble_eq_true rfl) ((sh_79_eq a0 a1 a2 a3 a4 a5 K w).mp h)
def sh_17 (a0 : Value) (a1 : Value) (a2 : Value) (a3 : Value) (a4 : Value) (K : Value → World → Prop) (w : World) : Prop :=
 oM Tryz.prog (.box 32 (.tmp 0)) 0 [a0] (fun v5_1 w =>
 oM Tryz.prog (.box 37 (.tmp 0)) 0 [a3] (fun v8_2 w =>
 oM Tryz.prog (.box 45 (.tmp 0)) 0 [a4] (fun v9_3 w =>
 oM Tryz.prog (.load 32 (.tmp 0)) 32 [v5_1] (fun v15_4 w =>
 oM Tryz.prog (.load 37 (.tmp 0)) 37 [v8_2] (fun v18_5 w =>
 oM Tryz.prog (.load 45 (.tmp 0)) 45 [v9_3] (fun v19_6 w =>
 callM Tryz.prog 78 #[v15_4, a1, a2, v18_5, v19_6] (fun v20_7 w =>
 oM Tryz.prog (.extract (.tmp 0) 0) 132 [v20_7] (fun v21_8 w =>
 oM Tryz.prog (.extract (.tmp 0) 1) 54 [v20_7] (fun v22_9 w =>
 oM Tryz.prog (.alloc 132) 0 [] (fun v12_10 w =>
 oM Tryz.prog (.store 132 (.tmp 0) (.tmp 1)) 0 [v12_10, v21_8] (fun _ w =>
 oM Tryz.prog (.fieldAddr 132 (.tmp 0) 2) 0 [v12_10] (fun v23_11 w =>
 oM Tryz.prog (.load 3 (.tmp 0)) 3 [v23_11] (fun v24_12 w =>
 K (.tuple #[v24_12, v22_9]) w) w) w) w) w) w) w) w) w) w) w) w) w) w
theorem sh_17_eq (a0 : Value) (a1 : Value) (a2 : Value) (a3 : Value) (a4 : Value) (K : Value → World → Prop) (w : World) : sh_17 a0 a1 a2 a3 a4 K w = code Tryz.prog (fun _ => 0) 26 (Tryz.f17.body.getD .skip) (slotsAt [a0, a1, a2, a3, a4]) (retK Tryz.prog [.tmp 10, .tmp 11] K) w := by kernel_rfl
theorem sh_17_ok {a0 a1 a2 a3 a4 : Value} {K : Value → World → Prop} {w : World} (h : sh_17 a0 a1 a2 a3 a4 K w) : callM Tryz.prog 17 #[a0, a1, a2, a3, a4] K w :=
  calls_of_code (fun _ => 0) (fn := Tryz.f17) (rs := [.tmp 10, .tmp 11]) Tryz.func17 rfl rfl (by kernel_rfl) (Nat.le_of_ble_eq_true rfl) ((sh_17_eq a0 a1 a2 a3 a4 K w).mp h)
def sh_18 (a0 : Value) (a1 : Value) (a2 : Value) (a3 : Value) (a4 : Value) (a5 : Value) (K : Value → World → Prop) (w : World) : Prop :=
 oM Tryz.prog (.box 32 (.tmp 0)) 0 [a0] (fun v6_1 w =>
 oM Tryz.prog (.box 37 (.tmp 0)) 0 [a3] (fun v9_2 w =>
 oM Tryz.prog (.box 45 (.tmp 0)) 0 [a4] (fun v10_3 w =>
 oM Tryz.prog (.alloc 41) 0 [] (fun v12_4 w =>
 oM Tryz.prog (.load 32 (.tmp 0)) 32 [v6_1] (fun v17_5 w =>
 oM Tryz.prog (.load 37 (.tmp 0)) 37 [v9_2] (fun v20_6 w =>
 oM Tryz.prog (.load 45 (.tmp 0)) 45 [v10_3] (fun v21_7 w =>
 callM Tryz.prog 78 #[v17_5, a1, a2, v20_6, v21_7] (fun v22_8 w =>
 oM Tryz.prog (.extract (.tmp 0) 0) 132 [v22_8] (fun v23_9 w =>
 oM Tryz.prog (.extract (.tmp 0) 1) 54 [v22_8] (fun v24_10 w =>
 oM Tryz.prog (.alloc 132) 0 [] (fun v14_11 w =>
 oM Tryz.prog (.store 132 (.tmp 0) (.tmp 1)) 0 [v14_11, v23_9] (fun _ w =>
 oM Tryz.prog (.binOp .neq 54 (.tmp 0) (.const (.int .i64 0)) 54) 4 [v24_10] (fun v27_12 w =>
 condM v27_12
 (oM Tryz.prog (.build 41 #[]) 41 [] (fun v28_13 w =>
 oM Tryz.prog (.store 41 (.tmp 0) (.tmp 1)) 0 [v12_4, v28_13] (fun _ w =>
 ∃ r_14, (do loadVar 41 (← asAddr v12_4) : Sem Value).run Tryz.prog w = .ok r_14 w ∧ K (.tuple #[r_14, v24_10]) w) w) w)
 (oM Tryz.prog (.fieldAddr 132 (.tmp 0) 0) 0 [v14_11] (fun v31_15 w =>
 oM Tryz.prog (.load 116 (.tmp 0)) 116 [v31_15] (fun v32_16 w =>
 oM Tryz.prog (.buildSlice 22 1 #[(0, (.tmp 0))]) 22 [a5] (fun v34_17 w =>
 callM Tryz.prog 65 #[v32_16, (.int .i64 0), v34_17] (fun v35_18 w =>
 oM Tryz.prog (.unOp .not 4 (.tmp 0)) 4 [v35_18] (fun v36_19 w =>
 condM v36_19
 (oM Tryz.prog (.build 41 #[]) 41 [] (fun v37_20 w =>
 oM Tryz.prog (.store 41 (.tmp 0) (.tmp 1)) 0 [v12_4, v37_20] (fun _ w =>
 ∃ r_21, (do loadVar 41 (← asAddr v12_4) : Sem Value).run Tryz.prog w = .ok r_21 w ∧ K (.tuple #[r_21, (.int .i64 1)]) w) w) w)
 (oM Tryz.prog (.fieldAddr 132 (.tmp 0) 0) 0 [v14_11] (fun v39_22 w =>
 oM Tryz.prog (.load 116 (.tmp 0)) 116 [v39_22] (fun v40_23 w =>
 oM Tryz.prog (.fieldAddr 132 (.tmp 0) 1) 0 [v14_11] (fun v42_24 w =>
 oM Tryz.prog (.load 3 (.tmp 0)) 3 [v42_24] (fun v43_25 w =>
 oM Tryz.prog (.fieldAddr 132 (.tmp 0) 2) 0 [v14_11] (fun v44_26 w =>
 oM Tryz.prog (.load 3 (.tmp 0)) 3 [v44_26] (fun v45_27 w =>
 oM Tryz.prog (.load 37 (.tmp 0)) 37 [v9_2] (fun v47_28 w =>
 callM Tryz.prog 79 #[v40_23, a1, v43_25, v45_27, a5, v47_28] (fun v48_29 w =>
 oM Tryz.prog (.unOp .not 4 (.tmp 0)) 4 [v48_29] (fun v49_30 w =>
 condM v49_30
 (oM Tryz.prog (.build 41 #[]) 41 [] (fun v50_31 w =>
 oM Tryz.prog (.store 41 (.tmp 0) (.tmp 1)) 0 [v12_4, v50_31] (fun _ w =>
 ∃ r_32, (do loadVar 41 (← asAddr v12_4) : Sem Value).run Tryz.prog w = .ok r_32 w ∧ K (.tuple #[r_32, (.int .i64 14)]) w) w) w)
 (heldM w (fun C_33 w => (((true : Bool) = true) ∧ (oH Tryz.prog (.fieldAddr 132 (.tmp 0) 0) 0 [v14_11] C_33 (fun v51_34 =>
 oH Tryz.prog (.load 116 (.tmp 0)) 116 [v51_34] C_33 (fun v52_35 =>
 oH Tryz.prog (.fieldAddr 132 (.tmp 0) 0) 0 [v14_11] C_33 (fun v53_36 =>
 oH Tryz.prog (.load 116 (.tmp 0)) 116 [v53_36] C_33 (fun v54_37 =>
 pureH a5 C_33 (fun v55_38 =>
 oH Tryz.prog (.fieldAddr 45 (.tmp 0) 1) 0 [v10_3] C_33 (fun v56_39 =>
 oH Tryz.prog (.load 3 (.tmp 0)) 3 [v56_39] C_33 (fun v57_40 =>
 oH Tryz.prog (.fieldAddr 45 (.tmp 0) 2) 0 [v10_3] C_33 (fun v60_41 =>
 oH Tryz.prog (.load 3 (.tmp 0)) 3 [v60_41] C_33 (fun v61_42 =>
 ∃ S_43 : World → World → Prop, ∀ w, C_33 w → (
 oM Tryz.prog (.buildSlice 22 1 #[(0, (.tmp 0))]) 22 [v57_40] (fun v58_44 w => C_33 w ∧ (
 callM Tryz.prog 71 #[v54_37, v55_38, v58_44] (fun v59_45 w => C_33 w ∧ (
 callM Tryz.prog 70 #[v52_35, v59_45, v61_42] (fun v62_46 w => C_33 w ∧ (
 oM Tryz.prog (.fieldAddr 132 (.tmp 0) 3) 0 [v14_11] (fun v63_47 w => C_33 w ∧ (
 oM Tryz.prog (.fieldAddr 41 (.tmp 0) 5) 0 [v63_47] (fun v64_48 w => C_33 w ∧ (
 oM Tryz.prog (.store 3 (.tmp 0) (.tmp 1)) 0 [v64_48, v62_46] (fun _ w => C_33 w ∧ (
 oM Tryz.prog (.fieldAddr 132 (.tmp 0) 3) 0 [v14_11] (fun v65_49 w =>
 oM Tryz.prog (.load 41 (.tmp 0)) 41 [v65_49] (fun v66_50 w =>
 oM Tryz.prog (.store 41 (.tmp 0) (.tmp 1)) 0 [v12_4, v66_50] (fun _ w =>
 ∃ r_51, (do loadVar 41 (← asAddr v12_4) : Sem Value).run Tryz.prog w = .ok r_51 w ∧ K (.tuple #[r_51, (.int .i64 0)]) w) w) w) w)) w)) w)) w)) w)) w)) w))))))))))))))) w) w) w) w) w) w) w) w) w)) w) w) w) w) w)) w) w) w) w) w) w) w) w) w) w) w) w) w
theorem sh_18_eq (a0 : Value) (a1 : Value) (a2 : Value) (a3 : Value) (a4 : Value) (a5 : Value) (K : Value → World → Prop) (w : World) : sh_18 a0 a1 a2 a3 a4 a5 K w = code Tryz.prog (fun _ => .mono [0, 1, 2, 3, 4, 5, 6, 9, 10] [] [7, 8, 11, 12, 13, 14]) 67 (Tryz.f18.body.getD .skip) (slotsAt [a0, a1, a2, a3, a4, a5]) (retK Tryz.prog [.cell 12 41, .tmp 13] K) w := by kernel_rfl
theorem sh_18_ok {a0 a1 a2 a3 a4 a5 : Value} {K : Value → World → Prop} {w : World} (h : sh_18 a0 a1 a2 a3 a4 a5 K w) : callM Tryz.prog 18 #[a0, a1, a2, a3, a4, a5] K w :=
  calls_of_code (fun _ => .mono [0, 1, 2, 3, 4, 5, 6, 9, 10] [] [7, 8, 11, 12, 13, 14]) (fn := Tryz.f18) (rs := [.cell 12 41, .tmp 13]) Tryz.func18 rfl rfl (by kernel_rfl) (Nat.le_of_ble_eq_true rfl) ((sh_18_eq a0 a1 a2 a3 a4 a5 K w).mp h)
end Go.Proofs
set_option linter.unusedVariables false
set_option maxRecDepth 100000
namespace Go.Proofs
open Go.Sh
def sh_144 (a0 : Value) (K : Value → World → Prop) (w : World) : Prop :=
 oM Tryz.prog (.convert 9 181 (.tmp 0)) 181 [a0] (fun v10_1 w =>
 oM Tryz.prog (.buildSlice 181 1 #[(0, (.tmp 0))]) 181 [(.int .u8 128)] (fun v11_2 w =>
 oM Tryz.prog (.call (Go.Call.mk (.builtin .append) #[(.tmp 0), (.tmp 1)] #[181, 181])) 181 [v10_1, v11_2] (fun v12_3 w =>
 loopM [v12_3] w (fun J_4 m_5 l_6 u_l_6 w0_l_6 => (fun w => (
 oM Tryz.prog (.call (Go.Call.mk (.builtin .len) #[(.tmp 0)] #[181])) 3 [(l_6.getD 0 undef)] (fun v14_7 w =>
 oM Tryz.prog (.binOp .rem 3 (.tmp 0) (.tmp 1) 3) 3 [v14_7, (.int .i64 64)] (fun v15_8 w =>
 oM Tryz.prog (.binOp .neq 3 (.tmp 0) (.const (.int .i64 56)) 3) 4 [v15_8] (fun v16_9 w =>
 condM v16_9
 (oM Tryz.prog (.buildSlice 181 1 #[(0, (.tmp 0))]) 181 [(.int .u8 0)] (fun v18_10 w =>
 oM Tryz.prog (.call (Go.Call.mk (.builtin .append) #[(.tmp 0), (.tmp 1)] #[181, 181])) 181 [(l_6.getD 0 undef), v18_10] (fun v19_11 w =>
 J_4 [v19_11] w ∧ m_5 [v19_11] w < m_5 l_6 w0_l_6) w) w)
 (loopM [(l_6.getD 0 undef), (.int .i64 56)] w (fun J_12 m_13 l_14 u_l_14 w0_l_14 => (fun w => (
 oM Tryz.prog (.binOp .geq 3 (.tmp 0) (.tmp 1) 3) 4 [(l_14.getD 1 undef), (.int .i64 0)] (fun v21_15 w =>
 condM v21_15
 (oM Tryz.prog (.call (Go.Call.mk (.builtin .len) #[(.tmp 0)] #[9])) 3 [a0] (fun v26_16 w =>
 oM Tryz.prog (.convert 3 139 (.tmp 0)) 139 [v26_16] (fun v27_17 w =>
 oM Tryz.prog (.binOp .mul 139 (.tmp 0) (.tmp 1) 139) 139 [(.int .u64 8), v27_17] (fun v28_18 w =>
 oM Tryz.prog (.binOp .shr 139 (.tmp 0) (.tmp 1) 3) 139 [v28_18, (l_14.getD 1 undef)] (fun v30_19 w =>
 oM Tryz.prog (.convert 139 5 (.tmp 0)) 5 [v30_19] (fun v31_20 w =>
 oM Tryz.prog (.buildSlice 181 1 #[(0, (.tmp 0))]) 181 [v31_20] (fun v32_21 w =>
 oM Tryz.prog (.call (Go.Call.mk (.builtin .append) #[(.tmp 0), (.tmp 1)] #[181, 181])) 181 [(l_14.getD 0 undef), v32_21] (fun v33_22 w =>
 oM Tryz.prog (.binOp .sub 3 (.tmp 0) (.tmp 1) 3) 3 [(l_14.getD 1 undef), (.int .i64 8)] (fun v23_23 w =>
 J_12 [v33_22, v23_23] w ∧ m_13 [v33_22, v23_23] w < m_13 l_14 w0_l_14) w) w) w) w) w) w) w) w)
 (callM Tryz.prog 184 #[] (fun v34_24 w =>
 oM Tryz.prog (.alloc 202) 0 [] (fun v5_25 w =>
 oM Tryz.prog (.store 202 (.tmp 0) (.tmp 1)) 0 [v5_25, v34_24] (fun _ w =>
 loopM [(l_14.getD 0 undef)] w (fun J_26 m_27 l_28 u_l_28 w0_l_28 => (fun w => (
 oM Tryz.prog (.call (Go.Call.mk (.builtin .len) #[(.tmp 0)] #[181])) 3 [(l_28.getD 0 undef)] (fun v36_29 w =>
 oM Tryz.prog (.binOp .gtr 3 (.tmp 0) (.tmp 1) 3) 4 [v36_29, (.int .i64 0)] (fun v37_30 w =>
 condM v37_30
 (stageM w (fun C_31 w => (oH Tryz.prog (.load 202 (.tmp 0)) 202 [v5_25] (upto C_31 0) (fun v40_32 =>
 pureH (l_28.getD 0 undef) (upto C_31 0) (fun v41_33 =>
 oH Tryz.prog (.slice 181 (.tmp 0) none (some (.tmp 1)) none) 181 [v41_33, (.int .i64 64)] (upto C_31 0) (fun v42_34 =>
 callM Tryz.prog 185 #[v40_32, v42_34] (fun v43_35 w => C_31 1 w ∧ (
 oM Tryz.prog (.store 202 (.tmp 0) (.tmp 1)) 0 [v5_25, v43_35] (fun _ w => C_31 2 w ∧ (
 oM Tryz.prog (.slice 181 (.tmp 0) (some (.tmp 1)) none none) 181 [(l_28.getD 0 undef), (.int .i64 64)] (fun v39_36 w =>
 J_26 [v39_36] w ∧ m_27 [v39_36] w < m_27 l_28 w0_l_28) w)) w)) w))))))
 (oM Tryz.prog (.load 202 (.tmp 0)) 202 [v5_25] (fun v44_37 w =>
 loopM [undef, (.slice none 0 0), (.int .i64 0)] w (fun J_38 m_39 l_40 u_l_40 w0_l_40 => (fun w => (
 oM Tryz.prog (.binOp .lss 3 (.tmp 0) (.tmp 1) 3) 0 [(l_40.getD 2 undef), (.int .i64 8)] (fun v46_41 w =>
 condM v46_41
 (oM Tryz.prog (.index 202 (.tmp 0) (.tmp 1)) 200 [v44_37, (l_40.getD 2 undef)] (fun v47_42 w =>
 oM Tryz.prog (.binOp .shr 200 (.tmp 0) (.tmp 1) 174) 200 [v47_42, (.int .u64 24)] (fun v50_43 w =>
 oM Tryz.prog (.convert 200 5 (.tmp 0)) 5 [v50_43] (fun v51_44 w =>
 oM Tryz.prog (.binOp .shr 200 (.tmp 0) (.tmp 1) 174) 200 [v47_42, (.int .u64 16)] (fun v53_45 w =>
 oM Tryz.prog (.convert 200 5 (.tmp 0)) 5 [v53_45] (fun v54_46 w =>
 oM Tryz.prog (.binOp .shr 200 (.tmp 0) (.tmp 1) 174) 200 [v47_42, (.int .u64 8)] (fun v56_47 w =>
 oM Tryz.prog (.convert 200 5 (.tmp 0)) 5 [v56_47] (fun v57_48 w =>
 oM Tryz.prog (.convert 200 5 (.tmp 0)) 5 [v47_42] (fun v59_49 w =>
 oM Tryz.prog (.buildSlice 181 4 #[(0, (.tmp 0)), (1, (.tmp 1)), (2, (.tmp 2)), (3, (.tmp 3))]) 181 [v51_44, v54_46, v57_48, v59_49] (fun v60_50 w =>
 oM Tryz.prog (.call (Go.Call.mk (.builtin .append) #[(.tmp 0), (.tmp 1)] #[181, 181])) 181 [(l_40.getD 1 undef), v60_50] (fun v61_51 w =>
 oM Tryz.prog (.binOp .add 3 (.tmp 0) (.tmp 1) 3) 3 [(l_40.getD 2 undef), (.int .i64 1)] (fun v62_52 w =>
 J_38 [v47_42, v61_51, v62_52] w ∧ m_39 [v47_42, v61_51, v62_52] w < m_39 l_40 w0_l_40) w) w) w) w) w) w) w) w) w) w) w)
 (oM Tryz.prog (.convert 181 9 (.tmp 0)) 9 [(l_40.getD 1 undef)] (fun v64_53 w =>
 K v64_53 w) w)) w)) w0_l_40)) w)) w) w)) w0_l_28)) w) w) w)) w)) w0_l_14))) w) w) w)) w0_l_6)) w) w) w
theorem sh_144_eq (a0 : Value) (K : Value → World → Prop) (w : World) : sh_144 a0 K w = code Tryz.prog (fun _ => 3) 65 (Tryz.f144.body.getD .skip) (slotsAt [a0]) (retK Tryz.prog [.tmp 2] K) w := by kernel_rfl
theorem sh_144_ok {a0 : Value} {K : Value → World → Prop} {w : World} (h : sh_144 a0 K w) : callM Tryz.prog 144 #[a0] K w :=
  calls_of_code (fun _ => 3) (fn := Tryz.f144) (rs := [.tmp 2]) Tryz.func144 rfl rfl (by kernel_rfl) (Nat.le_of_ble_eq_true rfl) ((sh_144_eq a0 K w).mp h)
def sh_184 (K : Value → World → Prop) (w : World) : Prop :=
 oM Tryz.prog (.alloc 202) 0 [] (fun v0_1 w =>
 oM Tryz.prog (.build 202 #[(0, (.tmp 0)), (1, (.tmp 1)), (2, (.tmp 2)), (3, (.tmp 3)), (4, (.tmp 4)), (5, (.tmp 5)), (6, (.tmp 6)), (7, (.tmp 7))]) 202 [(.int .u32 1779033703), (.int .u32 3144134277), (.int .u32 1013904242), (.int .u32 2773480762), (.int .u32 1359893119), (.int .u32 2600822924), (.int .u32 528734635), (.int .u32 1541459225)] (fun v1_2 w =>
 oM Tryz.prog (.store 202 (.tmp 0) (.tmp 1)) 0 [v0_1, v1_2] (fun _ w =>
 ∃ r_3, (do loadVar 202 (← asAddr v0_1) : Sem Value).run Tryz.prog w = .ok r_3 w ∧ K r_3 w) w) w) w
theorem sh_184_eq (K : Value → World → Prop) (w : World) : sh_184 K w = code Tryz.prog (fun _ => 0) 2 (Tryz.f184.body.getD .skip) (slotsAt []) (retK Tryz.prog [.cell 0 202] K) w := by kernel_rfl
theorem sh_184_ok {K : Value → World → Prop} {w : World} (h : sh_184 K w) : callM Tryz.prog 184 #[] K w :=
  calls_of_code (fun _ => 0) (fn := Tryz.f184) (rs := [.cell 0 202]) Tryz.func184 rfl rfl (by kernel_rfl) (Nat.le_of_ble_eq_true rfl) ((sh_184_eq K w).mp h)
def sh_185 (a0 : Value) (a1 : Value) (K : Value → World → Prop) (w : World) : Prop :=
 oM Tryz.prog (.box 202 (.tmp 0)) 0 [a0] (fun v2_1 w =>
 oM Tryz.prog (.alloc 202) 0 [] (fun v4_2 w =>
 callM Tryz.prog 205 #[a1] (fun v15_3 w =>
 callM Tryz.prog 206 #[] (fun v16_4 w =>
 oM Tryz.prog (.alloc 223) 0 [] (fun v5_5 w =>
 oM Tryz.prog (.alloc 223) 0 [] (fun v6_6 w =>
 oM Tryz.prog (.store 223 (.tmp 0) (.tmp 1)) 0 [v5_5, v15_3] (fun _ w =>
 oM Tryz.prog (.store 223 (.tmp 0) (.tmp 1)) 0 [v6_6, v16_4] (fun _ w =>
 oM Tryz.prog (.load 202 (.tmp 0)) 202 [v2_1] (fun v17_7 w =>
 oM Tryz.prog (.alloc 202) 0 [] (fun v7_8 w =>
 oM Tryz.prog (.store 202 (.tmp 0) (.tmp 1)) 0 [v7_8, v17_7] (fun _ w =>
 loopM [undef, undef, undef, undef, undef, (.int .i64 0)] w (fun J_9 m_10 l_11 u_l_11 w0_l_11 => (fun w => (
 oM Tryz.prog (.binOp .lss 3 (.tmp 0) (.tmp 1) 3) 0 [(l_11.getD 5 undef), (.int .i64 64)] (fun v19_12 w =>
 condM v19_12
 (quietM w (fun C_13 => (oQ Tryz.prog (.indexAddr 202 (.tmp 0) (.tmp 1)) 0 [v7_8, (.int .i64 4)] C_13 (fun v21_14 =>
 oQ Tryz.prog (.load 200 (.tmp 0)) 200 [v21_14] C_13 (fun v22_15 =>
 callQ Tryz.prog 207 #[v22_15, (.int .i64 (-6))] C_13 (fun v23_16 =>
 oQ Tryz.prog (.indexAddr 202 (.tmp 0) (.tmp 1)) 0 [v7_8, (.int .i64 4)] C_13 (fun v24_17 =>
 oQ Tryz.prog (.load 200 (.tmp 0)) 200 [v24_17] C_13 (fun v25_18 =>
 callQ Tryz.prog 207 #[v25_18, (.int .i64 (-11))] C_13 (fun v26_19 =>
 oQ Tryz.prog (.binOp .xor 200 (.tmp 0) (.tmp 1) 200) 200 [v23_16, v26_19] C_13 (fun v27_20 =>
 oQ Tryz.prog (.indexAddr 202 (.tmp 0) (.tmp 1)) 0 [v7_8, (.int .i64 4)] C_13 (fun v28_21 =>
 oQ Tryz.prog (.load 200 (.tmp 0)) 200 [v28_21] C_13 (fun v29_22 =>
 callQ Tryz.prog 207 #[v29_22, (.int .i64 (-25))] C_13 (fun v30_23 =>
 oQ Tryz.prog (.binOp .xor 200 (.tmp 0) (.tmp 1) 200) 200 [v27_20, v30_23] C_13 (fun v31_24 =>
 ∀ w, C_13 w → (quietM w (fun C_25 => (oQ Tryz.prog (.indexAddr 202 (.tmp 0) (.tmp 1)) 0 [v7_8, (.int .i64 7)] C_25 (fun v32_26 =>
 oQ Tryz.prog (.load 200 (.tmp 0)) 200 [v32_26] C_25 (fun v33_27 =>
 oQ Tryz.prog (.binOp .add 200 (.tmp 0) (.tmp 1) 200) 200 [v33_27, v31_24] C_25 (fun v35_28 =>
 oQ Tryz.prog (.indexAddr 202 (.tmp 0) (.tmp 1)) 0 [v7_8, (.int .i64 6)] C_25 (fun v36_29 =>
 oQ Tryz.prog (.load 200 (.tmp 0)) 200 [v36_29] C_25 (fun v37_30 =>
 oQ Tryz.prog (.indexAddr 202 (.tmp 0) (.tmp 1)) 0 [v7_8, (.int .i64 4)] C_25 (fun v38_31 =>
 oQ Tryz.prog (.load 200 (.tmp 0)) 200 [v38_31] C_25 (fun v39_32 =>
 oQ Tryz.prog (.indexAddr 202 (.tmp 0) (.tmp 1)) 0 [v7_8, (.int .i64 5)] C_25 (fun v40_33 =>
 oQ Tryz.prog (.load 200 (.tmp 0)) 200 [v40_33] C_25 (fun v41_34 =>
 oQ Tryz.prog (.indexAddr 202 (.tmp 0) (.tmp 1)) 0 [v7_8, (.int .i64 6)] C_25 (fun v42_35 =>
 oQ Tryz.prog (.load 200 (.tmp 0)) 200 [v42_35] C_25 (fun v43_36 =>
 oQ Tryz.prog (.binOp .xor 200 (.tmp 0) (.tmp 1) 200) 200 [v41_34, v43_36] C_25 (fun v44_37 =>
 oQ Tryz.prog (.binOp .and 200 (.tmp 0) (.tmp 1) 200) 200 [v39_32, v44_37] C_25 (fun v45_38 =>
 oQ Tryz.prog (.binOp .xor 200 (.tmp 0) (.tmp 1) 200) 200 [v37_30, v45_38] C_25 (fun v46_39 =>
 oQ Tryz.prog (.binOp .add 200 (.tmp 0) (.tmp 1) 200) 200 [v35_28, v46_39] C_25 (fun v47_40 =>
 oQ Tryz.prog (.indexAddr 223 (.tmp 0) (.tmp 1)) 0 [v6_6, (l_11.getD 5 undef)] C_25 (fun v49_41 =>
 oQ Tryz.prog (.load 200 (.tmp 0)) 200 [v49_41] C_25 (fun v50_42 =>
 oQ Tryz.prog (.binOp .add 200 (.tmp 0) (.tmp 1) 200) 200 [v47_40, v50_42] C_25 (fun v51_43 =>
 oQ Tryz.prog (.indexAddr 223 (.tmp 0) (.tmp 1)) 0 [v5_5, (l_11.getD 5 undef)] C_25 (fun v53_44 =>
 oQ Tryz.prog (.load 200 (.tmp 0)) 200 [v53_44] C_25 (fun v54_45 =>
 oQ Tryz.prog (.binOp .add 200 (.tmp 0) (.tmp 1) 200) 200 [v51_43, v54_45] C_25 (fun v55_46 =>
 ∀ w, C_25 w → (quietM w (fun C_47 => (oQ Tryz.prog (.indexAddr 202 (.tmp 0) (.tmp 1)) 0 [v7_8, (.int .i64 0)] C_47 (fun v56_48 =>
 oQ Tryz.prog (.load 200 (.tmp 0)) 200 [v56_48] C_47 (fun v57_49 =>
 callQ Tryz.prog 207 #[v57_49, (.int .i64 (-2))] C_47 (fun v58_50 =>
 oQ Tryz.prog (.indexAddr 202 (.tmp 0) (.tmp 1)) 0 [v7_8, (.int .i64 0)] C_47 (fun v59_51 =>
 oQ Tryz.prog (.load 200 (.tmp 0)) 200 [v59_51] C_47 (fun v60_52 =>
 callQ Tryz.prog 207 #[v60_52, (.int .i64 (-13))] C_47 (fun v61_53 =>
 oQ Tryz.prog (.binOp .xor 200 (.tmp 0) (.tmp 1) 200) 200 [v58_50, v61_53] C_47 (fun v62_54 =>
 oQ Tryz.prog (.indexAddr 202 (.tmp 0) (.tmp 1)) 0 [v7_8, (.int .i64 0)] C_47 (fun v63_55 =>
 oQ Tryz.prog (.load 200 (.tmp 0)) 200 [v63_55] C_47 (fun v64_56 =>
 callQ Tryz.prog 207 #[v64_56, (.int .i64 (-22))] C_47 (fun v65_57 =>
 oQ Tryz.prog (.binOp .xor 200 (.tmp 0) (.tmp 1) 200) 200 [v62_54, v65_57] C_47 (fun v66_58 =>
 ∀ w, C_47 w → (oM Tryz.prog (.indexAddr 202 (.tmp 0) (.tmp 1)) 0 [v7_8, (.int .i64 0)] (fun v67_59 w =>
 oM Tryz.prog (.load 200 (.tmp 0)) 200 [v67_59] (fun v68_60 w =>
 oM Tryz.prog (.indexAddr 202 (.tmp 0) (.tmp 1)) 0 [v7_8, (.int .i64 1)] (fun v69_61 w =>
 oM Tryz.prog (.load 200 (.tmp 0)) 200 [v69_61] (fun v70_62 w =>
 oM Tryz.prog (.binOp .and 200 (.tmp 0) (.tmp 1) 200) 200 [v68_60, v70_62] (fun v71_63 w =>
 oM Tryz.prog (.indexAddr 202 (.tmp 0) (.tmp 1)) 0 [v7_8, (.int .i64 2)] (fun v72_64 w =>
 oM Tryz.prog (.load 200 (.tmp 0)) 200 [v72_64] (fun v73_65 w =>
 oM Tryz.prog (.indexAddr 202 (.tmp 0) (.tmp 1)) 0 [v7_8, (.int .i64 0)] (fun v74_66 w =>
 oM Tryz.prog (.load 200 (.tmp 0)) 200 [v74_66] (fun v75_67 w =>
 oM Tryz.prog (.indexAddr 202 (.tmp 0) (.tmp 1)) 0 [v7_8, (.int .i64 1)] (fun v76_68 w =>
 oM Tryz.prog (.load 200 (.tmp 0)) 200 [v76_68] (fun v77_69 w =>
 oM Tryz.prog (.binOp .or 200 (.tmp 0) (.tmp 1) 200) 200 [v75_67, v77_69] (fun v78_70 w =>
 oM Tryz.prog (.binOp .and 200 (.tmp 0) (.tmp 1) 200) 200 [v73_65, v78_70] (fun v79_71 w =>
 oM Tryz.prog (.binOp .or 200 (.tmp 0) (.tmp 1) 200) 200 [v71_63, v79_71] (fun v80_72 w =>
 oM Tryz.prog (.binOp .add 200 (.tmp 0) (.tmp 1) 200) 200 [v55_46, v66_58] (fun v83_73 w =>
 oM Tryz.prog (.binOp .add 200 (.tmp 0) (.tmp 1) 200) 200 [v83_73, v80_72] (fun v85_74 w =>
 oM Tryz.prog (.indexAddr 202 (.tmp 0) (.tmp 1)) 0 [v7_8, (.int .i64 0)] (fun v86_75 w =>
 oM Tryz.prog (.load 200 (.tmp 0)) 200 [v86_75] (fun v87_76 w =>
 oM Tryz.prog (.indexAddr 202 (.tmp 0) (.tmp 1)) 0 [v7_8, (.int .i64 1)] (fun v88_77 w =>
 oM Tryz.prog (.load 200 (.tmp 0)) 200 [v88_77] (fun v89_78 w =>
 oM Tryz.prog (.indexAddr 202 (.tmp 0) (.tmp 1)) 0 [v7_8, (.int .i64 2)] (fun v90_79 w =>
 oM Tryz.prog (.load 200 (.tmp 0)) 200 [v90_79] (fun v91_80 w =>
 oM Tryz.prog (.indexAddr 202 (.tmp 0) (.tmp 1)) 0 [v7_8, (.int .i64 3)] (fun v92_81 w =>
 oM Tryz.prog (.load 200 (.tmp 0)) 200 [v92_81] (fun v93_82 w =>
 oM Tryz.prog (.binOp .add 200 (.tmp 0) (.tmp 1) 200) 200 [v93_82, v55_46] (fun v95_83 w =>
 oM Tryz.prog (.indexAddr 202 (.tmp 0) (.tmp 1)) 0 [v7_8, (.int .i64 4)] (fun v96_84 w =>
 oM Tryz.prog (.load 200 (.tmp 0)) 200 [v96_84] (fun v97_85 w =>
 oM Tryz.prog (.indexAddr 202 (.tmp 0) (.tmp 1)) 0 [v7_8, (.int .i64 5)] (fun v98_86 w =>
 oM Tryz.prog (.load 200 (.tmp 0)) 200 [v98_86] (fun v99_87 w =>
 oM Tryz.prog (.indexAddr 202 (.tmp 0) (.tmp 1)) 0 [v7_8, (.int .i64 6)] (fun v100_88 w =>
 oM Tryz.prog (.load 200 (.tmp 0)) 200 [v100_88] (fun v101_89 w =>
 oM Tryz.prog (.build 202 #[(0, (.tmp 0)), (1, (.tmp 1)), (2, (.tmp 2)), (3, (.tmp 3)), (4, (.tmp 4)), (5, (.tmp 5)), (6, (.tmp 6)), (7, (.tmp 7))]) 202 [v85_74, v87_76, v89_78, v91_80, v95_83, v97_85, v99_87, v101_89] (fun v102_90 w =>
 oM Tryz.prog (.store 202 (.tmp 0) (.tmp 1)) 0 [v7_8, v102_90] (fun _ w =>
 oM Tryz.prog (.binOp .add 3 (.tmp 0) (.tmp 1) 3) 3 [(l_11.getD 5 undef), (.int .i64 1)] (fun v103_91 w =>
 J_9 [(l_11.getD 5 undef), v31_24, v55_46, v66_58, v80_72, v103_91] w ∧ m_10 [(l_11.getD 5 undef), v31_24, v55_46, v66_58, v80_72, v103_91] w < m_10 l_11 w0_l_11) w) w) w) w) w) w) w) w) w) w) w) w) w) w) w) w) w) w) w) w) w) w) w) w) w) w) w) w) w) w) w) w) w) w)))))))))))))))))))))))))))))))))))))))))))))))))))))
 (loopM [undef, (.int .i64 0)] w (fun J_92 m_93 l_94 u_l_94 w0_l_94 => (fun w => (
 oM Tryz.prog (.binOp .lss 3 (.tmp 0) (.tmp 1) 3) 0 [(l_94.getD 1 undef), (.int .i64 8)] (fun v105_95 w =>
 condM v105_95
 (stageM w (fun C_96 w => (pureH (l_94.getD 1 undef) (upto C_96 0) (fun v107_97 =>
 oH Tryz.prog (.indexAddr 202 (.tmp 0) (.tmp 1)) 0 [v7_8, v107_97] (upto C_96 0) (fun v108_98 =>
 oH Tryz.prog (.load 200 (.tmp 0)) 200 [v108_98] (upto C_96 0) (fun v109_99 =>
 pureH (l_94.getD 1 undef) (upto C_96 0) (fun v110_100 =>
 oH Tryz.prog (.indexAddr 202 (.tmp 0) (.tmp 1)) 0 [v2_1, v110_100] (upto C_96 0) (fun v111_101 =>
 oH Tryz.prog (.load 200 (.tmp 0)) 200 [v111_101] (upto C_96 0) (fun v112_102 =>
 oH Tryz.prog (.binOp .add 200 (.tmp 0) (.tmp 1) 200) 200 [v109_99, v112_102] (upto C_96 0) (fun v113_103 =>
 oH Tryz.prog (.indexAddr 202 (.tmp 0) (.tmp 1)) 0 [v7_8, v107_97] (upto C_96 0) (fun v114_104 =>
 oM Tryz.prog (.store 200 (.tmp 0) (.tmp 1)) 0 [v114_104, v113_103] (fun _ w => C_96 1 w ∧ (
 oM Tryz.prog (.binOp .add 3 (.tmp 0) (.tmp 1) 3) 3 [(l_94.getD 1 undef), (.int .i64 1)] (fun v115_105 w =>
 J_92 [(l_94.getD 1 undef), v115_105] w ∧ m_93 [(l_94.getD 1 undef), v115_105] w < m_93 l_94 w0_l_94) w)) w)))))))))))
 (oM Tryz.prog (.load 202 (.tmp 0)) 202 [v7_8] (fun v116_106 w =>
 oM Tryz.prog (.store 202 (.tmp 0) (.tmp 1)) 0 [v4_2, v116_106] (fun _ w =>
 ∃ r_107, (do loadVar 202 (← asAddr v4_2) : Sem Value).run Tryz.prog w = .ok r_107 w ∧ K r_107 w) w) w)) w)) w0_l_94))) w)) w0_l_11)) w) w) w) w) w) w) w) w) w) w) w
theorem sh_185_eq (a0 : Value) (a1 : Value) (K : Value → World → Prop) (w : World) : sh_185 a0 a1 K w = code Tryz.prog (fun i => bif Nat.beq i 15 then 3 else 0) 117 (Tryz.f185.body.getD .skip) (slotsAt [a0, a1]) (retK Tryz.prog [.cell 4 202] K) w := by kernel_rfl
theorem sh_185_ok {a0 a1 : Value} {K : Value → World → Prop} {w : World} (h : sh_185 a0 a1 K w) : callM Tryz.prog 185 #[a0, a1] K w :=
  calls_of_code (fun i => bif Nat.beq i 15 then 3 else 0) (fn := Tryz.f185) (rs := [.cell 4 202]) Tryz.func185 rfl rfl (by kernel_rfl) (Nat.le_of_ble_eq_true rfl) ((sh_185_eq a0 a1 K w).mp h)
def sh_205 (a0 : Value) (K : Value → World → Prop) (w : World) : Prop :=
 oM Tryz.prog (.alloc 223) 0 [] (fun v2_1 w =>
 loopM [undef, undef, undef, undef, undef, (.int .i64 0)] w (fun J_2 m_3 l_4 u_l_4 w0_l_4 => (fun w => (
 oM Tryz.prog (.binOp .lss 3 (.tmp 0) (.tmp 1) 3) 0 [(l_4.getD 5 undef), (.int .i64 64)] (fun v9_5 w =>
 condM v9_5
 (joinM (fun M_6 => (oM Tryz.prog (.binOp .lss 3 (.tmp 0) (.tmp 1) 3) 4 [(l_4.getD 5 undef), (.int .i64 16)] (fun v12_8 w =>
 condM v12_8
 (heldM w (fun C_9 w => (pureH (l_4.getD 5 undef) C_9 (fun v13_10 =>
 pureH a0 C_9 (fun v14_11 =>
 pureH (l_4.getD 5 undef) C_9 (fun v15_12 =>
 oH Tryz.prog (.binOp .mul 3 (.tmp 0) (.tmp 1) 3) 3 [(.int .i64 4), v15_12] C_9 (fun v16_13 =>
 oH Tryz.prog (.indexAddr 181 (.tmp 0) (.tmp 1)) 0 [v14_11, v16_13] C_9 (fun v17_14 =>
 oH Tryz.prog (.load 5 (.tmp 0)) 5 [v17_14] C_9 (fun v18_15 =>
 oH Tryz.prog (.convert 5 200 (.tmp 0)) 200 [v18_15] C_9 (fun v19_16 =>
 oH Tryz.prog (.binOp .shl 200 (.tmp 0) (.tmp 1) 174) 200 [v19_16, (.int .u64 24)] C_9 (fun v20_17 =>
 pureH a0 C_9 (fun v21_18 =>
 pureH (l_4.getD 5 undef) C_9 (fun v22_19 =>
 oH Tryz.prog (.binOp .mul 3 (.tmp 0) (.tmp 1) 3) 3 [(.int .i64 4), v22_19] C_9 (fun v23_20 =>
 oH Tryz.prog (.binOp .add 3 (.tmp 0) (.tmp 1) 3) 3 [v23_20, (.int .i64 1)] C_9 (fun v24_21 =>
 oH Tryz.prog (.indexAddr 181 (.tmp 0) (.tmp 1)) 0 [v21_18, v24_21] C_9 (fun v25_22 =>
 oH Tryz.prog (.load 5 (.tmp 0)) 5 [v25_22] C_9 (fun v26_23 =>
 oH Tryz.prog (.convert 5 200 (.tmp 0)) 200 [v26_23] C_9 (fun v27_24 =>
 oH Tryz.prog (.binOp .shl 200 (.tmp 0) (.tmp 1) 174) 200 [v27_24, (.int .u64 16)] C_9 (fun v28_25 =>
 oH Tryz.prog (.binOp .or 200 (.tmp 0) (.tmp 1) 200) 200 [v20_17, v28_25] C_9 (fun v29_26 =>
 pureH a0 C_9 (fun v30_27 =>
 pureH (l_4.getD 5 undef) C_9 (fun v31_28 =>
 oH Tryz.prog (.binOp .mul 3 (.tmp 0) (.tmp 1) 3) 3 [(.int .i64 4), v31_28] C_9 (fun v32_29 =>
 oH Tryz.prog (.binOp .add 3 (.tmp 0) (.tmp 1) 3) 3 [v32_29, (.int .i64 2)] C_9 (fun v33_30 =>
 oH Tryz.prog (.indexAddr 181 (.tmp 0) (.tmp 1)) 0 [v30_27, v33_30] C_9 (fun v34_31 =>
 oH Tryz.prog (.load 5 (.tmp 0)) 5 [v34_31] C_9 (fun v35_32 =>
 oH Tryz.prog (.convert 5 200 (.tmp 0)) 200 [v35_32] C_9 (fun v36_33 =>
 oH Tryz.prog (.binOp .shl 200 (.tmp 0) (.tmp 1) 174) 200 [v36_33, (.int .u64 8)] C_9 (fun v37_34 =>
 oH Tryz.prog (.binOp .or 200 (.tmp 0) (.tmp 1) 200) 200 [v29_26, v37_34] C_9 (fun v38_35 =>
 pureH a0 C_9 (fun v39_36 =>
 pureH (l_4.getD 5 undef) C_9 (fun v40_37 =>
 oH Tryz.prog (.binOp .mul 3 (.tmp 0) (.tmp 1) 3) 3 [(.int .i64 4), v40_37] C_9 (fun v41_38 =>
 oH Tryz.prog (.binOp .add 3 (.tmp 0) (.tmp 1) 3) 3 [v41_38, (.int .i64 3)] C_9 (fun v42_39 =>
 oH Tryz.prog (.indexAddr 181 (.tmp 0) (.tmp 1)) 0 [v39_36, v42_39] C_9 (fun v43_40 =>
 oH Tryz.prog (.load 5 (.tmp 0)) 5 [v43_40] C_9 (fun v44_41 =>
 oH Tryz.prog (.convert 5 200 (.tmp 0)) 200 [v44_41] C_9 (fun v45_42 =>
 oH Tryz.prog (.binOp .or 200 (.tmp 0) (.tmp 1) 200) 200 [v38_35, v45_42] C_9 (fun v46_43 =>
 oH Tryz.prog (.indexAddr 223 (.tmp 0) (.tmp 1)) 0 [v2_1, v13_10] C_9 (fun v47_44 =>
 oM Tryz.prog (.store 200 (.tmp 0) (.tmp 1)) 0 [v47_44, v46_43] (fun _ w => C_9 w ∧ (
 M_6 [(l_4.getD 5 undef), (l_4.getD 1 undef), (l_4.getD 2 undef), (l_4.getD 3 undef), (l_4.getD 4 undef)] w)) w))))))))))))))))))))))))))))))))))))))
 (quietM w (fun C_45 => (oQ Tryz.prog (.binOp .sub 3 (.tmp 0) (.tmp 1) 3) 3 [(l_4.getD 5 undef), (.int .i64 15)] C_45 (fun v49_46 =>
 oQ Tryz.prog (.indexAddr 223 (.tmp 0) (.tmp 1)) 0 [v2_1, v49_46] C_45 (fun v50_47 =>
 oQ Tryz.prog (.load 200 (.tmp 0)) 200 [v50_47] C_45 (fun v51_48 =>
 oQ Tryz.prog (.binOp .sub 3 (.tmp 0) (.tmp 1) 3) 3 [(l_4.getD 5 undef), (.int .i64 2)] C_45 (fun v53_49 =>
 oQ Tryz.prog (.indexAddr 223 (.tmp 0) (.tmp 1)) 0 [v2_1, v53_49] C_45 (fun v54_50 =>
 oQ Tryz.prog (.load 200 (.tmp 0)) 200 [v54_50] C_45 (fun v55_51 =>
 ∀ w, C_45 w → (callM Tryz.prog 207 #[v51_48, (.int .i64 (-7))] (fun v57_52 w =>
 callM Tryz.prog 207 #[v51_48, (.int .i64 (-18))] (fun v59_53 w =>
 oM Tryz.prog (.binOp .xor 200 (.tmp 0) (.tmp 1) 200) 200 [v57_52, v59_53] (fun v60_54 w =>
 oM Tryz.prog (.binOp .shr 200 (.tmp 0) (.tmp 1) 174) 200 [v51_48, (.int .u64 3)] (fun v62_55 w =>
 oM Tryz.prog (.binOp .xor 200 (.tmp 0) (.tmp 1) 200) 200 [v60_54, v62_55] (fun v63_56 w =>
 callM Tryz.prog 207 #[v55_51, (.int .i64 (-17))] (fun v65_57 w =>
 callM Tryz.prog 207 #[v55_51, (.int .i64 (-19))] (fun v67_58 w =>
 oM Tryz.prog (.binOp .xor 200 (.tmp 0) (.tmp 1) 200) 200 [v65_57, v67_58] (fun v68_59 w =>
 oM Tryz.prog (.binOp .shr 200 (.tmp 0) (.tmp 1) 174) 200 [v55_51, (.int .u64 10)] (fun v70_60 w =>
 oM Tryz.prog (.binOp .xor 200 (.tmp 0) (.tmp 1) 200) 200 [v68_59, v70_60] (fun v71_61 w =>
 heldM w (fun C_62 w => (pureH (l_4.getD 5 undef) C_62 (fun v72_63 =>
 pureH (l_4.getD 5 undef) C_62 (fun v73_64 =>
 oH Tryz.prog (.binOp .sub 3 (.tmp 0) (.tmp 1) 3) 3 [v73_64, (.int .i64 16)] C_62 (fun v74_65 =>
 oH Tryz.prog (.indexAddr 223 (.tmp 0) (.tmp 1)) 0 [v2_1, v74_65] C_62 (fun v75_66 =>
 oH Tryz.prog (.load 200 (.tmp 0)) 200 [v75_66] C_62 (fun v76_67 =>
 pureH v63_56 C_62 (fun v77_68 =>
 oH Tryz.prog (.binOp .add 200 (.tmp 0) (.tmp 1) 200) 200 [v76_67, v77_68] C_62 (fun v78_69 =>
 pureH (l_4.getD 5 undef) C_62 (fun v79_70 =>
 oH Tryz.prog (.binOp .sub 3 (.tmp 0) (.tmp 1) 3) 3 [v79_70, (.int .i64 7)] C_62 (fun v80_71 =>
 oH Tryz.prog (.indexAddr 223 (.tmp 0) (.tmp 1)) 0 [v2_1, v80_71] C_62 (fun v81_72 =>
 oH Tryz.prog (.load 200 (.tmp 0)) 200 [v81_72] C_62 (fun v82_73 =>
 oH Tryz.prog (.binOp .add 200 (.tmp 0) (.tmp 1) 200) 200 [v78_69, v82_73] C_62 (fun v83_74 =>
 pureH v71_61 C_62 (fun v84_75 =>
 oH Tryz.prog (.binOp .add 200 (.tmp 0) (.tmp 1) 200) 200 [v83_74, v84_75] C_62 (fun v85_76 =>
 oH Tryz.prog (.indexAddr 223 (.tmp 0) (.tmp 1)) 0 [v2_1, v72_63] C_62 (fun v86_77 =>
 oM Tryz.prog (.store 200 (.tmp 0) (.tmp 1)) 0 [v86_77, v85_76] (fun _ w => C_62 w ∧ (
 M_6 [(l_4.getD 5 undef), v51_48, v55_51, v63_56, v71_61] w)) w)))))))))))))))))) w) w) w) w) w) w) w) w) w) w))))))))))) w))
 (fun l_7 u_l_7 w => (oM Tryz.prog (.binOp .add 3 (.tmp 0) (.tmp 1) 3) 3 [(l_4.getD 5 undef), (.int .i64 1)] (fun v87_78 w =>
 J_2 [(l_7.getD 0 undef), (l_7.getD 1 undef), (l_7.getD 2 undef), (l_7.getD 3 undef), (l_7.getD 4 undef), v87_78] w ∧ m_3 [(l_7.getD 0 undef), (l_7.getD 1 undef), (l_7.getD 2 undef), (l_7.getD 3 undef), (l_7.getD 4 undef), v87_78] w < m_3 l_4 w0_l_4) w)))
 (oM Tryz.prog (.load 223 (.tmp 0)) 223 [v2_1] (fun v88_79 w =>
 oM Tryz.prog (.store 223 (.tmp 0) (.tmp 1)) 0 [v2_1, v88_79] (fun _ w =>
 ∃ r_80, (do loadVar 223 (← asAddr v2_1) : Sem Value).run Tryz.prog w = .ok r_80 w ∧ K r_80 w) w) w)) w)) w0_l_4)) w
theorem sh_205_eq (a0 : Value) (K : Value → World → Prop) (w : World) : sh_205 a0 K w = code Tryz.prog (fun i => bif Nat.beq i 5 then .tree (.look 0 (.look 1 (.look 2 (.look 3 (.look 4 (.look 5 (.look 6 (.look 7 (.look 8 (.look 9 (.look 10 (.look 11 (.look 12 (.look 13 (.look 14 (.look 15 (.look 16 (.look 17 (.look 18 (.look 19 (.look 20 (.look 21 (.look 22 (.look 23 (.look 24 (.look 25 (.look 26 (.look 27 (.look 28 (.look 29 (.look 30 (.look 31 (.look 32 (.look 33 (.look 34 (.only 35 (.done))))))))))))))))))))))))))))))))))))) else bif Nat.beq i 9 then 2 else 0) 89 (Tryz.f205.body.getD .skip) (slotsAt [a0]) (retK Tryz.prog [.cell 2 223] K) w := by kernel_rfl
theorem sh_205_ok {a0 : Value} {K : Value → World → Prop} {w : World} (h : sh_205 a0 K w) : callM Tryz.prog 205 #[a0] K w :=
  calls_of_code (fun i => bif Nat.beq i 5 then .tree (.look 0 (.look 1 (.look 2 (.look 3 (.look 4 (.look 5 (.look 6 (.look 7 (.look 8 (.look 9 (.look 10 (.look 11 (.look 12 (.look 13 (.look 14 (.look 15 (.look 16 (.look 17 (.look 18 (.look 19 (.look 20 (.look 21 (.look 22 (.look 23 (.look 24 (.look 25 (.look 26 (.look 27 (.look 28 (.look 29 (.look 30 (.look 31 (.look 32 (.look 33 (.look 34 (.only 35 (.done))))))))))))))))))))))))))))))))))))) else bif Nat.beq i 9 then 2 else 0) (fn := Tryz.f205) (rs := [.cell 2 223]) Tryz.func205 rfl rfl (by kernel_rfl) (Nat.le_of_ble_eq_true rfl) ((sh_205_eq a0 K w).mp h)
def sh_206 (K : Value → World → Prop) (w : World) : Prop :=
 oM Tryz.prog (.alloc 223) 0 [] (fun v0_1 w =>
 oM Tryz.prog (.build 223 #[(0, (.tmp 0)), (1, (.tmp 1)), (2, (.tmp 2)), (3, (.tmp 3)), (4, (.tmp 4)), (5, (.tmp 5)), (6, (.tmp 6)), (7, (.tmp 7)), (8, (.tmp 8)), (9, (.tmp 9)), (10, (.tmp 10)), (11, (.tmp 11)), (12, (.tmp 12)), (13, (.tmp 13)), (14, (.tmp 14)), (15, (.tmp 15)), (16, (.tmp 16)), (17, (.tmp 17)), (18, (.tmp 18)), (19, (.tmp 19)), (20, (.tmp 20)), (21, (.tmp 21)), (22, (.tmp 22)), (23, (.tmp 23)), (24, (.tmp 24)), (25, (.tmp 25)), (26, (.tmp 26)), (27, (.tmp 27)), (28, (.tmp 28)), (29, (.tmp 29)), (30, (.tmp 30)), (31, (.tmp 31)), (32, (.tmp 32)), (33, (.tmp 33)), (34, (.tmp 34)), (35, (.tmp 35)), (36, (.tmp 36)), (37, (.tmp 37)), (38, (.tmp 38)), (39, (.tmp 39)), (40, (.tmp 40)), (41, (.tmp 41)), (42, (.tmp 42)), (43, (.tmp 43)), (44, (.tmp 44)), (45, (.tmp 45)), (46, (.tmp 46)), (47, (.tmp 47)), (48, (.tmp 48)), (49, (.tmp 49)), (50, (.tmp 50)), (51, (.tmp 51)), (52, (.tmp 52)), (53, (.tmp 53)), (54, (.tmp 54)), (55, (.tmp 55)), (56, (.tmp 56)), (57, (.tmp 57)), (58, (.tmp 58)), (59, (.tmp 59)), (60, (.tmp 60)), (61, (.tmp 61)), (62, (.tmp 62)), (63, (.tmp 63))]) 223 [(.int .u32 1116352408), (.int .u32 1899447441), (.int .u32 3049323471), (.int .u32 3921009573), (.int .u32 961987163), (.int .u32 1508970993), (.int .u32 2453635748), (.int .u32 2870763221), (.int .u32 3624381080), (.int .u32 310598401), (.int .u32 607225278), (.int .u32 1426881987), (.int .u32 1925078388), (.int .u32 2162078206), (.int .u32 2614888103), (.int .u32 3248222580), (.int .u32 3835390401), (.int .u32 4022224774), (.int .u32 264347078), (.int .u32 604807628), (.int .u32 770255983), (.int .u32 1249150122), (.int .u32 1555081692), (.int .u32 1996064986), (.int .u32 2554220882), (.int .u32 2821834349), (.int .u32 2952996808), (.int .u32 3210313671), (.int .u32 3336571891), (.int .u32 3584528711), (.int .u32 113926993), (.int .u32 338241895), (.int .u32 666307205), (.int .u32 773529912), (.int .u32 1294757372), (.int .u32 1396182291), (.int .u32 1695183700), (.int .u32 1986661051), (.int .u32 2177026350), (.int .u32 2456956037), (.int .u32 2730485921), (.int .u32 2820302411), (.int .u32 3259730800), (.int .u32 3345764771), (.int .u32 3516065817), (.int .u32 3600352804), (.int .u32 4094571909), (.int .u32 275423344), (.int .u32 430227734), (.int .u32 506948616), (.int .u32 659060556), (.int .u32 883997877), (.int .u32 958139571), (.int .u32 1322822218), (.int .u32 1537002063), (.int .u32 1747873779), (.int .u32 1955562222), (.int .u32 2024104815), (.int .u32 2227730452), (.int .u32 2361852424), (.int .u32 2428436474), (.int .u32 2756734187), (.int .u32 3204031479), (.int .u32 3329325298)] (fun v1_2 w =>
 oM Tryz.prog (.store 223 (.tmp 0) (.tmp 1)) 0 [v0_1, v1_2] (fun _ w =>
 ∃ r_3, (do loadVar 223 (← asAddr v0_1) : Sem Value).run Tryz.prog w = .ok r_3 w ∧ K r_3 w) w) w) w
theorem sh_206_eq (K : Value → World → Prop) (w : World) : sh_206 K w = code Tryz.prog (fun _ => 0) 2 (Tryz.f206.body.getD .skip) (slotsAt []) (retK Tryz.prog [.cell 0 223] K) w := by kernel_rfl
theorem sh_206_ok {K : Value → World → Prop} {w : World} (h : sh_206 K w) : callM Tryz.prog 206 #[] K w :=
  calls_of_code (fun _ => 0) (fn := Tryz.f206) (rs := [.cell 0 223]) Tryz.func206 rfl rfl (by kernel_rfl) (Nat.le_of_ble_eq_true rfl) ((sh_206_eq K w).mp h)
def sh_207 (a0 : Value) (a1 : Value) (K : Value → World → Prop) (w : World) : Prop :=
 oM Tryz.prog (.convert 3 174 (.tmp 0)) 174 [a1] (fun v7_1 w =>
 oM Tryz.prog (.binOp .and 174 (.tmp 0) (.tmp 1) 174) 174 [v7_1, (.int .u64 31)] (fun v8_2 w =>
 oM Tryz.prog (.binOp .shl 200 (.tmp 0) (.tmp 1) 174) 200 [a0, v8_2] (fun v11_3 w =>
 oM Tryz.prog (.binOp .sub 174 (.tmp 0) (.tmp 1) 174) 174 [(.int .u64 32), v8_2] (fun v14_4 w =>
 oM Tryz.prog (.binOp .shr 200 (.tmp 0) (.tmp 1) 174) 200 [a0, v14_4] (fun v15_5 w =>
 oM Tryz.prog (.binOp .or 200 (.tmp 0) (.tmp 1) 200) 200 [v11_3, v15_5] (fun v16_6 w =>
 K v16_6 w) w) w) w) w) w) w
theorem sh_207_eq (a0 : Value) (a1 : Value) (K : Value → World → Prop) (w : World) : sh_207 a0 a1 K w = code Tryz.prog (fun _ => 0) 17 (Tryz.f207.body.getD .skip) (slotsAt [a0, a1]) (retK Tryz.prog [.tmp 4] K) w := by kernel_rfl
theorem sh_207_ok {a0 a1 : Value} {K : Value → World → Prop} {w : World} (h : sh_207 a0 a1 K w) : callM Tryz.prog 207 #[a0, a1] K w :=
  calls_of_code (fun _ => 0) (fn := Tryz.f207) (rs := [.tmp 4]) Tryz.func207 rfl rfl (by kernel_rfl) (Nat.le_of_ble_eq_true rfl) ((sh_207_eq a0 a1 K w).mp h)
end Go.Proofs
namespace ShaSpec
abbrev W := BitVec 32
def rotr (x : W) (k : Nat) : W := x >>> k ||| x <<< (32 - k)
theorem rotl_rotr (x : W) (k : Nat) : x <<< (32 - k) ||| x >>> k = rotr x k := BitVec.or_comm _ _
def ch (e f g : W) : W := g ^^^ (e &&& (f ^^^ g))
def maj (a b c : W) : W := (a &&& b) ||| (c &&& (a ||| b))
def w8 (b : UInt8) : W := BitVec.ofNat 32 b.toNat
def word (b : List UInt8) (k : Nat) : W := w8 (b.getD (4 * k) 0) <<< 24 ||| w8 (b.getD (4 * k + 1) 0) <<< 16 ||| w8 (b.getD (4 * k + 2) 0) <<< 8 ||| w8 (b.getD (4 * k + 3) 0)
def sig0 (x : W) : W := rotr x 7 ^^^ rotr x 18 ^^^ x >>> 3
def sig1 (y : W) : W := rotr y 17 ^^^ rotr y 19 ^^^ y >>> 10
def at' (l : List W) (k : Nat) : W := l.getD k 0
def nextW (b : List UInt8) (l : List W) (k : Nat) : W :=
  if k < 16 then word b k else at' l (k - 16) + sig0 (at' l (k - 15)) + at' l (k - 7) + sig1 (at' l (k - 2))
def sched (b : List UInt8) : Nat → List W
  | 0 => []
  | n + 1 => sched b n ++ [nextW b (sched b n) n]
theorem sched_length (b : List UInt8) (n : Nat) : (sched b n).length = n := by
  induction n with
  | zero => rfl
  | succ n ih => simp [sched, ih]
structure St where
  a : W
  b : W
  c : W
  d : W
  e : W
  f : W
  g : W
  h : W
def St.list (s : St) : List W := [s.a, s.b, s.c, s.d, s.e, s.f, s.g, s.h]
def round (s : St) (k w : W) : St :=
  let t1 := s.h + (rotr s.e 6 ^^^ rotr s.e 11 ^^^ rotr s.e 25) + ch s.e s.f s.g + k + w
  ⟨t1 + (rotr s.a 2 ^^^ rotr s.a 13 ^^^ rotr s.a 22) + maj s.a s.b s.c, s.a, s.b, s.c, s.d + t1, s.e, s.f, s.g⟩
def consts : List W := [
  0x428a2f98, 0x71374491, 0xb5c0fbcf, 0xe9b5dba5, 0x3956c25b, 0x59f111f1, 0x923f82a4, 0xab1c5ed5,
  0xd807aa98, 0x12835b01, 0x243185be, 0x550c7dc3, 0x72be5d74, 0x80deb1fe, 0x9bdc06a7, 0xc19bf174,
  0xe49b69c1, 0xefbe4786, 0x0fc19dc6, 0x240ca1cc, 0x2de92c6f, 0x4a7484aa, 0x5cb0a9dc, 0x76f988da,
  0x983e5152, 0xa831c66d, 0xb00327c8, 0xbf597fc7, 0xc6e00bf3, 0xd5a79147, 0x06ca6351, 0x14292967,
  0x27b70a85, 0x2e1b2138, 0x4d2c6dfc, 0x53380d13, 0x650a7354, 0x766a0abb, 0x81c2c92e, 0x92722c85,
  0xa2bfe8a1, 0xa81a664b, 0xc24b8b70, 0xc76c51a3, 0xd192e819, 0xd6990624, 0xf40e3585, 0x106aa070,
  0x19a4c116, 0x1e376c08, 0x2748774c, 0x34b0bcb5, 0x391c0cb3, 0x4ed8aa4a, 0x5b9cca4f, 0x682e6ff3,
  0x748f82ee, 0x78a5636f, 0x84c87814, 0x8cc70208, 0x90befffa, 0xa4506ceb, 0xbef9a3f7, 0xc67178f2]
theorem consts_length : consts.length = 64 := by decide
def rounds (b : List UInt8) (s : St) : Nat → St
  | 0 => s
  | n + 1 => round (rounds b s n) (at' consts n) (at' (sched b 64) n)
def mix (s : St) (b : List UInt8) : St :=
  let v := rounds b s 64
  ⟨v.a + s.a, v.b + s.b, v.c + s.c, v.d + s.d, v.e + s.e, v.f + s.f, v.g + s.g, v.h + s.h⟩
def first : St := ⟨0x6a09e667, 0xbb67ae85, 0x3c6ef372, 0xa54ff53a, 0x510e527f, 0x9b05688c, 0x1f83d9ab, 0x5be0cd19⟩
def lenBytes (n : Nat) : List UInt8 := [7, 6, 5, 4, 3, 2, 1, 0].map fun k => UInt8.ofNat (8 * n / 2 ^ (8 * k))
def zeros (n : Nat) : Nat := (119 - n % 64) % 64
def padded (s : List UInt8) : List UInt8 := s ++ [128] ++ List.replicate (zeros s.length) 0 ++ lenBytes s.length
theorem lenBytes_length (n : Nat) : (lenBytes n).length = 8 := rfl
theorem padded_length (s : List UInt8) : (padded s).length % 64 = 0 := by
  simp only [padded, zeros, List.length_append, List.length_replicate, lenBytes_length, List.length_singleton]
  omega
def blocks : Nat → St → List UInt8 → St
  | 0, s, _ => s
  | n + 1, s, b => blocks n (mix s (b.take 64)) (b.drop 64)
def out1 (w : W) : List UInt8 := [UInt8.ofNat (w.toNat / 16777216), UInt8.ofNat (w.toNat / 65536), UInt8.ofNat (w.toNat / 256), UInt8.ofNat w.toNat]
def sha (s : List UInt8) : List UInt8 := ((blocks ((padded s).length / 64) first (padded s)).list.map out1).flatten
theorem sha_length (s : List UInt8) : (sha s).length = 32 := by
  simp [sha, St.list, out1]
end ShaSpec
namespace Go.Sh
open Go Go.RowKit
def w32 (x : BitVec 32) : Value := .int .u32 (x.toNat : Int)
theorem w32_wrap (n : Nat) : IntKind.u32.wrap (n : Int) = ((BitVec.ofNat 32 n).toNat : Int) := by
  rw [IntKind.wrap_u32, BitVec.toNat_ofNat]; omega
theorem w32_ofInt (x : BitVec 32) : BitVec.ofInt 32 (x.toNat : Int) = x := by
  rw [BitVec.ofInt_natCast, BitVec.ofNat_toNat, BitVec.setWidth_eq]
theorem bits32_and (x y : BitVec 32) : bits .and .u32 (x.toNat : Int) (y.toNat : Int) = ((x &&& y).toNat : Int) := by
  show IntKind.u32.wrap (((BitVec.ofInt 32 (x.toNat : Int) &&& BitVec.ofInt 32 (y.toNat : Int)).toNat : Nat) : Int) = _
  rw [w32_ofInt, w32_ofInt, w32_wrap, BitVec.ofNat_toNat, BitVec.setWidth_eq]
theorem bits32_or (x y : BitVec 32) : bits .or .u32 (x.toNat : Int) (y.toNat : Int) = ((x ||| y).toNat : Int) := by
  show IntKind.u32.wrap (((BitVec.ofInt 32 (x.toNat : Int) ||| BitVec.ofInt 32 (y.toNat : Int)).toNat : Nat) : Int) = _
  rw [w32_ofInt, w32_ofInt, w32_wrap, BitVec.ofNat_toNat, BitVec.setWidth_eq]
theorem bits32_xor (x y : BitVec 32) : bits .xor .u32 (x.toNat : Int) (y.toNat : Int) = ((x ^^^ y).toNat : Int) := by
  show IntKind.u32.wrap (((BitVec.ofInt 32 (x.toNat : Int) ^^^ BitVec.ofInt 32 (y.toNat : Int)).toNat : Nat) : Int) = _
  rw [w32_ofInt, w32_ofInt, w32_wrap, BitVec.ofNat_toNat, BitVec.setWidth_eq]
section
variable {P : Program} {K : Value → World → Prop} {w : World}
theorem wadd (t t' T : TypeId) (x y : BitVec 32) : oM P (.binOp .add t (.tmp 0) (.tmp 1) t') T [w32 x, w32 y] = pureM (w32 (x + y)) := by
  have e : IntKind.u32.wrap ((x.toNat : Int) + (y.toNat : Int)) = ((x + y).toNat : Int) := by
    rw [← Int.natCast_add, w32_wrap]
    congr 1
  unfold w32
  rw [oM_add', e]
theorem wand (t t' T : TypeId) (x y : BitVec 32) : oM P (.binOp .and t (.tmp 0) (.tmp 1) t') T [w32 x, w32 y] = pureM (w32 (x &&& y)) := by
  funext K w
  unfold w32
  rw [← bits32_and]
  simp [oM, opM, xop, execOp, evalL, evE, binOp, go_sem]
theorem wor (t t' T : TypeId) (x y : BitVec 32) : oM P (.binOp .or t (.tmp 0) (.tmp 1) t') T [w32 x, w32 y] = pureM (w32 (x ||| y)) := by
  funext K w
  unfold w32
  rw [← bits32_or]
  simp [oM, opM, xop, execOp, evalL, evE, binOp, go_sem]
theorem wxor (t t' T : TypeId) (x y : BitVec 32) : oM P (.binOp .xor t (.tmp 0) (.tmp 1) t') T [w32 x, w32 y] = pureM (w32 (x ^^^ y)) := by
  funext K w
  unfold w32
  rw [← bits32_xor]
  simp [oM, opM, xop, execOp, evalL, evE, binOp, go_sem]
theorem wshr (t t' T : TypeId) (yk : IntKind) (x : BitVec 32) (n : Nat) (h : n ≤ 32) : oM P (.binOp .shr t (.tmp 0) (.tmp 1) t') T [w32 x, .int yk (n : Int)] = pureM (w32 (x >>> n)) := by
  unfold w32
  rw [oM_shr32 t t' T yk _ _ (by omega) (by omega)]
  congr 2
  rw [BitVec.toNat_ushiftRight, Nat.shiftRight_eq_div_pow, Int.toNat_natCast, Int.natCast_ediv, Int.natCast_pow]
  rfl
theorem wshl (t t' T : TypeId) (yk : IntKind) (x : BitVec 32) (n : Nat) (h : n ≤ 32) : oM P (.binOp .shl t (.tmp 0) (.tmp 1) t') T [w32 x, .int yk (n : Int)] = pureM (w32 (x <<< n)) := by
  unfold w32
  rw [oM_shl32 t t' T yk _ _ (by omega) (by omega)]
  congr 2
  rw [BitVec.toNat_shiftLeft, Nat.shiftLeft_eq, Int.toNat_natCast, Int.natCast_emod, Int.natCast_mul, Int.natCast_pow]
  rfl
end
end Go.Sh
namespace Go.Proofs
open Go Go.Sh Go.RowKit ShaSpec
set_option linter.unusedSimpArgs false
set_option linter.unusedVariables false
set_option maxRecDepth 10000
section
variable {K : Value → World → Prop} {w : World}
theorem rotl_ok (x : W) (r : Nat) (h0 : 0 < r) (h1 : r < 32) (h : K (w32 (rotr x r)) w) : callM Tryz.prog 207 #[w32 x, .int .i64 (-(r : Int))] K w := by
  apply sh_207_ok
  unfold sh_207
  have e1 : IntKind.u64.wrap (-(r : Int)) = 18446744073709551616 - (r : Int) := by rw [IntKind.wrap_u64]; omega
  have e2 : bits .and .u64 (18446744073709551616 - (r : Int)) 31 = ((32 - r : Nat) : Int) := by
    rw [mask64 5 _ 31 (by omega) (by decide) (by omega)]; omega
  have e3 : IntKind.u64.wrap (32 - ((32 - r : Nat) : Int)) = (r : Int) := by rw [IntKind.wrap_u64]; omega
  have s1 := fun t t' T => wshl (P := Tryz.prog) t t' T .u64 x (32 - r) (by omega)
  have s2 := fun t t' T => wshr (P := Tryz.prog) t t' T .u64 x r (by omega)
  rw [← rotl_rotr] at h
  obtain ⟨m, hm⟩ : ∃ m, m = 32 - r := ⟨_, rfl⟩
  rw [← hm] at e2 e3 s1 h
  repeat (any_goals ((with_reducible refine idO ?_); (with_reducible refine oM_gen fun Kv hK=>?_); simp [go_sem, e1, e2, e3, s1, s2, wor]; refine hK _ _ ?_; clear hK; clear Kv))
  exact h
end
end Go.Proofs
namespace Go.Sh
open Go Go.RowKit
@[reducible] def ptr (g i : Nat) : Value := .pointer (some ⟨g, i, none⟩)
def Holds (w : World) (g : Nat) (T : TypeId) (vs : List Value) : Prop := w.heap[g]? = some (.cells vs.toArray T (0, 0))
theorem Holds.lt {w : World} {g : Nat} {T : TypeId} {vs : List Value} (h : Holds w g T vs) : g < w.heap.size := (Array.getElem?_eq_some_iff.1 h).1
theorem Holds.next {w w' : World} {g : Nat} {T : TypeId} {vs : List Value} (h : Holds w g T vs) (hb : Below w.heap.size w w') : Holds w' g T vs := by
  unfold Holds
  rw [hb.block g h.lt]; exact h
theorem Holds.other {w w' : World} {g g' : Nat} {T : TypeId} {vs : List Value} (h : Holds w g T vs) (hg : w.grownBy w' (some g')) (hne : g ≠ g') : Holds w' g T vs := by
  unfold Holds
  rw [hg.block g h.lt (fun e => hne (by cases e; rfl))]; exact h
theorem Holds.cell {w : World} {g : Nat} {T : TypeId} {vs : List Value} (h : Holds w g T vs) (i : Nat) (hi : i < vs.length) : w.cell? ⟨g, i, none⟩ = some vs[i] := by
  unfold World.cell?
  rw [h]
  simp [hi]
theorem Holds.are {w : World} {g : Nat} {T : TypeId} {vs : List Value} (h : Holds w g T vs) : cellsAre w (cellsOf [] g 0 vs) :=
  cellsOf_are (xs := vs) (L := []) trivial (fun i v hi => by
    obtain ⟨hl, rfl⟩ := List.getElem?_eq_some_iff.1 hi
    exact h.cell i hl) vs 0 rfl
section
variable {P : Program} {w : World} {K : Value → World → Prop} {T T' T0 : TypeId} {g n : Nat}
theorem arr_alloc {zs : List Value} (hA : ∀ w, (Instr.alloc T true (.tuple #[])).run P w = .ok (.pointer (some ⟨w.heap.size, 0, none⟩)) (w.alloc (.cells zs.toArray T)))
    (k : ∀ g W, Below w.heap.size w W → w.heap.size ≤ g → Holds W g T zs → K (ptr g 0) W) : oM P (.alloc T) T' [] K w := by
  rw [oM_alloc, hA]
  refine k _ _ ((Below.refl w.heap.size w).alloc (Nat.le_refl _) _) (Nat.le_refl _) ?_
  show (w.heap.push _)[w.heap.size]? = _
  simp
theorem arr_box {x : Value} {cs : List Value} (hx : x.cells = cs.toArray) (k : ∀ g W, Below w.heap.size w W → w.heap.size ≤ g → Holds W g T cs → K (ptr g 0) W) : oM P (.box T (.tmp 0)) T' [x] K w := by
  rw [oM_box]
  have e : (Instr.box T x).run P w = .ok (.pointer (some ⟨w.heap.size, 0, none⟩)) (w.alloc (.cells cs.toArray T)) := by
    rw [← hx]; rfl
  rw [e]
  refine k _ _ ((Below.refl w.heap.size w).alloc (Nat.le_refl _) _) (Nat.le_refl _) ?_
  show (w.heap.push _)[w.heap.size]? = _
  simp
theorem arr_storeRow {o m : Nat} {cur xs : List Value} {x : Value} (hT : ∀ w, (sizeOf T).run P w = .ok m w) (hx : x.cells = xs.toArray) (hl : xs.length = m) (h1 : ∀ u ∈ xs, u.oneCell' = true) (hg : Holds w g T0 cur) (hfit : o + m ≤ cur.length)
    (k : ∀ W, w.grownBy W (some g) → Holds W g T0 (cur.take o ++ xs ++ cur.drop (o + m)) → K undef W) : oM P (.store T (.tmp 0) (.tmp 1)) T' [ptr g o, x] K w := by
  have hst := run_storeCells_at P g o T0 xs 0 cur.toArray w hg (by simp; omega) h1
  rw [Nat.add_zero] at hst
  have e2 : x.cells.toList = xs := by rw [hx]
  have e3 : x.cells.size = m := by rw [hx]; simpa using hl
  have hrun : (Instr.storeAt T (ptr g o) x).run P w = .ok () (w.setRow g (cur.take o ++ xs ++ cur.drop (o + xs.length)).toArray) := by
    unfold Instr.storeAt storeVar
    rw [e2, e3]
    simp only [List.append_assoc] at hst ⊢
    simp [hT, go_sem]
    exact hst
  rw [oM_store, hrun]
  rw [hl] at *
  exact k _ (grown_setRow _ _ _) (setRow_heap w g _ _ T0 (0, 0) hg)
theorem arr_store {cur xs : List Value} {x : Value} (hT : ∀ w, (sizeOf T).run P w = .ok n w) (hx : x.cells = xs.toArray) (hl : xs.length = n) (h1 : ∀ u ∈ xs, u.oneCell' = true) (hg : Holds w g T0 cur) (hc : cur.length = n)
    (k : ∀ W, w.grownBy W (some g) → Holds W g T0 xs → K undef W) : oM P (.store T (.tmp 0) (.tmp 1)) T' [ptr g 0, x] K w := by
  refine arr_storeRow hT hx hl h1 hg (by omega) (fun W h2 h3 => k W h2 ?_)
  rw [Nat.zero_add, List.take_zero, List.nil_append, List.drop_of_length_le (by omega), List.append_nil] at h3
  exact h3
theorem arr_set {cur : List Value} {x : Value} {i : Nat} (hT : ∀ w, (sizeOf T).run P w = .ok 1 w) (hx : x.cells = #[x]) (h1 : x.oneCell' = true) (hg : Holds w g T0 cur) (hi : i < cur.length)
    (k : ∀ W, w.grownBy W (some g) → Holds W g T0 (cur.set i x) → K undef W) : oM P (.store T (.tmp 0) (.tmp 1)) T' [ptr g i, x] K w := by
  refine arr_storeRow (xs := [x]) hT hx rfl (by intro u hu; rw [List.mem_singleton] at hu; subst hu; exact h1) hg (by omega) (fun W h2 h3 => k W h2 ?_)
  rw [List.set_eq_take_append_cons_drop, if_pos hi]
  simpa [List.append_assoc] using h3
theorem arr_load {cs : List Value} {d : TypeDesc} (hg : Holds w g T0 cs) (hu : P.underlying T = some d) (hd : (match d with | .struct _ | .array _ _ => true | _ => false) = true) (hi : (P.info? T).map (·.size) = some cs.length) (k : K (.agg cs.toArray) w) :
    oM P (.load T (.tmp 0)) T' [ptr g 0] K w := by
  rw [oM_load]
  have := run_loadVar_row (P := P) w g T0 T cs.toArray (0, 0) d hg hu hd (by simpa using hi)
  have e : (Instr.loadAt T (ptr g 0)).run P w = (loadVar T ⟨g, 0, none⟩).run P w := rfl
  rw [e, this]
  exact k
theorem arr_ret {cs : List Value} {d : TypeDesc} (hg : Holds w g T0 cs) (hu : P.underlying T = some d) (hd : (match d with | .struct _ | .array _ _ => true | _ => false) = true) (hi : (P.info? T).map (·.size) = some cs.length) (k : K (.agg cs.toArray) w) :
    ∃ r, (do loadVar T (← asAddr (ptr g 0)) : Sem Value).run P w = .ok r w ∧ K r w := by
  have := run_loadVar_row (P := P) w g T0 T cs.toArray (0, 0) d hg hu hd (by simpa using hi)
  exact ⟨_, this, k⟩
theorem oM_idx_arr {N : Nat} (t : TypeId) (hu : P.underlying t = some (.array (P.arrayLen t) (P.elem t))) (hN : P.arrayLen t = N) (h2 : 2 ≤ N) (hs : ∀ w, (sizeOf (P.elem t)).run P w = .ok 1 w) (T : TypeId) (b o : Nat) (x : Int) :
    oM P (.indexAddr t (.tmp 0) (.tmp 1)) T [.pointer (some ⟨b, o, none⟩), .int .i64 x] = onM (0 ≤ x ∧ x < N) (.pointer (some ⟨b, o + x.toNat, none⟩)) := by
  funext K w
  rw [oM_indexAddr, run_indexAt_array (h := hu), hN]
  by_cases hi : 0 ≤ x ∧ x < N
  · rw [if_pos hi, hs]
    simp only [Result.andThen, add_none, Nat.mul_one, rM_ok]
    exact propext ⟨fun h => ⟨hi, h⟩, fun h => h.2⟩
  · rw [if_neg hi, if_neg (by omega)]
    obtain ⟨e', w', he⟩ := halts Value P .i64 x N .index w
    rw [he]
    exact propext ⟨fun h => h.elim, fun h => hi h.1⟩
theorem grown_below {w0 w' : World} (h0 : Below w0.heap.size w0 w) (hg : w.grownBy w' (some g)) (h : w0.heap.size ≤ g) : Below w0.heap.size w0 w' :=
  h0.grown hg h0.size (fun k hk => by cases hk; exact h)
end
end Go.Sh
namespace Go.Proofs
open Go Go.Sh Go.RowKit ShaSpec
set_option linter.unusedSimpArgs false
set_option linter.unusedVariables false
set_option maxRecDepth 10000
section
variable {K : Value → World → Prop} {w : World}
@[reducible] def ws (l : List W) : List Value := l.map w32
theorem ws_one (l : List W) : ∀ u ∈ ws l, u.oneCell' = true := by
  intro u hu
  obtain ⟨x, _, rfl⟩ := List.mem_map.1 hu
  rfl
@[reducible] def stV (s : St) : Value := .agg (ws s.list).toArray
theorem sz_words (w : World) : (sizeOf 202).run Tryz.prog w = .ok 8 w := by kernel_rfl
theorem sz_64 (w : World) : (sizeOf 223).run Tryz.prog w = .ok 64 w := by kernel_rfl
theorem sz_u32 (w : World) : (sizeOf 200).run Tryz.prog w = .ok 1 w := by kernel_rfl
theorem al_words (w : World) : (Instr.alloc 202 true (.tuple #[])).run Tryz.prog w = .ok (.pointer (some ⟨w.heap.size, 0, none⟩)) (w.alloc (.cells (ws (List.replicate 8 0)).toArray 202)) := by kernel_rfl
theorem al_64 (w : World) : (Instr.alloc 223 true (.tuple #[])).run Tryz.prog w = .ok (.pointer (some ⟨w.heap.size, 0, none⟩)) (w.alloc (.cells (ws (List.replicate 64 0)).toArray 223)) := by kernel_rfl
theorem un_words : Tryz.prog.underlying 202 = some (.array (Tryz.prog.arrayLen 202) (Tryz.prog.elem 202)) := by kernel_rfl
theorem un_64 : Tryz.prog.underlying 223 = some (.array (Tryz.prog.arrayLen 223) (Tryz.prog.elem 223)) := by kernel_rfl
@[go_sem] theorem idx_words (T : TypeId) (b o : Nat) (x : Int) : oM Tryz.prog (.indexAddr 202 (.tmp 0) (.tmp 1)) T [.pointer (some ⟨b, o, none⟩), .int .i64 x] = onM (0 ≤ x ∧ x < (8 : Nat)) (.pointer (some ⟨b, o + x.toNat, none⟩)) :=
  oM_idx_arr _ un_words (by kernel_rfl) (by decide) (fun w => by kernel_rfl) T b o x
@[go_sem] theorem idx_64 (T : TypeId) (b o : Nat) (x : Int) : oM Tryz.prog (.indexAddr 223 (.tmp 0) (.tmp 1)) T [.pointer (some ⟨b, o, none⟩), .int .i64 x] = onM (0 ≤ x ∧ x < (64 : Nat)) (.pointer (some ⟨b, o + x.toNat, none⟩)) :=
  oM_idx_arr _ un_64 (by kernel_rfl) (by decide) (fun w => by kernel_rfl) T b o x
theorem build_first : oM Tryz.prog (Go.Op.build 202 #[(0, (.tmp 0)), (1, (.tmp 1)), (2, (.tmp 2)), (3, (.tmp 3)), (4, (.tmp 4)), (5, (.tmp 5)), (6, (.tmp 6)), (7, (.tmp 7))]) 202 [(.int .u32 1779033703), (.int .u32 3144134277), (.int .u32 1013904242), (.int .u32 2773480762), (.int .u32 1359893119), (.int .u32 2600822924), (.int .u32 528734635), (.int .u32 1541459225)] = pureM (stV first) := by
  funext K w
  kernel_rfl
theorem first_ok (k : ∀ w', Below w.heap.size w w' → K (stV first) w') : callM Tryz.prog 184 #[] K w := by
  apply sh_184_ok
  unfold sh_184
  refine arr_alloc al_words fun g W hb hg hh => ?_
  rw [build_first]
  refine pureM_in ?_
  refine arr_store sz_words (xs := ws first.list) rfl rfl (ws_one _) hh rfl (fun W2 hg2 hh => ?_)
  exact arr_ret hh un_words rfl (by kernel_rfl) (k _ (grown_below hb hg2 hg))
theorem build_table : ∀ K w, oM Tryz.prog (Go.Op.build 223 ((List.range 64).map fun i => (i, Operand.tmp i)).toArray) 223 (ws consts) K w = pureM (.agg (ws consts).toArray) K w := by
  intro K w
  kernel_rfl
theorem table_ok (k : ∀ w', Below w.heap.size w w' → K (.agg (ws consts).toArray) w') : callM Tryz.prog 206 #[] K w := by
  apply sh_206_ok
  unfold sh_206
  refine arr_alloc al_64 fun g W hb hg hh => ?_
  refine (build_table _ W).symm ▸ ?_
  refine pureM_in ?_
  refine arr_store sz_64 (xs := ws consts) rfl rfl (ws_one _) hh rfl (fun W2 hg2 hh => ?_)
  exact arr_ret hh un_64 rfl (by kernel_rfl) (k _ (grown_below hb hg2 hg))
def ByR (w : World) (b o : Nat) (l : List UInt8) : Prop := b < w.heap.size ∧ ∀ i, i < l.length → w.cell? ⟨b, o + i, none⟩ = some (.int .u8 ((l.getD i 0).toNat : Int))
theorem ByR.next {w w' : World} {b o : Nat} {l : List UInt8} (h : ByR w b o l) (hb : Below w.heap.size w w') : ByR w' b o l :=
  ⟨Nat.lt_of_lt_of_le h.1 hb.size, fun i hi => by rw [hb.cell h.1]; exact h.2 i hi⟩
theorem conv_u8 (T : TypeId) (x : UInt8) : oM Tryz.prog (.convert 5 200 (.tmp 0)) T [.int .u8 (x.toNat : Int)] = pureM (w32 (w8 x)) := by
  funext K w
  have e : IntKind.u32.wrap (x.toNat : Int) = ((w8 x).toNat : Int) := by
    have := x.toNat_lt
    rw [IntKind.wrap_u32]
    unfold w8
    rw [BitVec.toNat_ofNat]
    omega
  have e2 : (convert 5 200 (.int .u8 (x.toNat : Int))).run Tryz.prog w = .ok (.int .u32 (IntKind.u32.wrap (x.toNat : Int))) w := by kernel_rfl
  rw [oM_convert, e2, e]
  rfl
end
end Go.Proofs
namespace Go.Proofs
open Go Go.Sh Go.RowKit ShaSpec
set_option linter.unusedSimpArgs false
set_option linter.unusedVariables false
set_option maxRecDepth 10000
section
variable {K : Value → World → Prop} {w : World}
@[go_sem] theorem idx_bytes (T : TypeId) (b o n c : Nat) (x : Int) : oM Tryz.prog (.indexAddr 181 (.tmp 0) (.tmp 1)) T [.slice (some ⟨b, o, none⟩) n c, .int .i64 x] = onM (0 ≤ x ∧ x < n) (.pointer (some ⟨b, o + x.toNat, none⟩)) := by
  funext K w
  rw [oM_indexAddr, run_indexAt_slice (h := by kernel_rfl)]
  have hs : (sizeOf (Tryz.prog.elem 181)).run Tryz.prog w = .ok 1 w := by kernel_rfl
  by_cases hi : 0 ≤ x ∧ x < n
  · rw [if_pos hi, hs]
    simp only [Result.andThen, add_none, Nat.mul_one, rM_ok]
    exact propext ⟨fun h => ⟨hi, h⟩, fun h => h.2⟩
  · rw [if_neg hi]
    obtain ⟨e', w', he⟩ := halts Value Tryz.prog .i64 x n .index w
    rw [he]
    exact propext ⟨fun h => h.elim, fun h => hi h.1⟩
theorem shl24 (t t' T : TypeId) (x : W) : oM Tryz.prog (.binOp .shl t (.tmp 0) (.tmp 1) t') T [w32 x, .int .u64 24] = pureM (w32 (x <<< 24)) := wshl t t' T .u64 x 24 (by omega)
theorem shl16 (t t' T : TypeId) (x : W) : oM Tryz.prog (.binOp .shl t (.tmp 0) (.tmp 1) t') T [w32 x, .int .u64 16] = pureM (w32 (x <<< 16)) := wshl t t' T .u64 x 16 (by omega)
theorem shl8 (t t' T : TypeId) (x : W) : oM Tryz.prog (.binOp .shl t (.tmp 0) (.tmp 1) t') T [w32 x, .int .u64 8] = pureM (w32 (x <<< 8)) := wshl t t' T .u64 x 8 (by omega)
theorem shr3 (t t' T : TypeId) (x : W) : oM Tryz.prog (.binOp .shr t (.tmp 0) (.tmp 1) t') T [w32 x, .int .u64 3] = pureM (w32 (x >>> 3)) := wshr t t' T .u64 x 3 (by omega)
theorem shr10 (t t' T : TypeId) (x : W) : oM Tryz.prog (.binOp .shr t (.tmp 0) (.tmp 1) t') T [w32 x, .int .u64 10] = pureM (w32 (x >>> 10)) := wshr t t' T .u64 x 10 (by omega)
theorem shr24 (t t' T : TypeId) (x : W) : oM Tryz.prog (.binOp .shr t (.tmp 0) (.tmp 1) t') T [w32 x, .int .u64 24] = pureM (w32 (x >>> 24)) := wshr t t' T .u64 x 24 (by omega)
theorem shr16 (t t' T : TypeId) (x : W) : oM Tryz.prog (.binOp .shr t (.tmp 0) (.tmp 1) t') T [w32 x, .int .u64 16] = pureM (w32 (x >>> 16)) := wshr t t' T .u64 x 16 (by omega)
theorem shr8 (t t' T : TypeId) (x : W) : oM Tryz.prog (.binOp .shr t (.tmp 0) (.tmp 1) t') T [w32 x, .int .u64 8] = pureM (w32 (x >>> 8)) := wshr t t' T .u64 x 8 (by omega)
theorem rot6 (x : W) (h : K (w32 (rotr x 6)) w) : callM Tryz.prog 207 #[w32 x, .int .i64 (-6)] K w := rotl_ok x 6 (by omega) (by omega) h
theorem rot11 (x : W) (h : K (w32 (rotr x 11)) w) : callM Tryz.prog 207 #[w32 x, .int .i64 (-11)] K w := rotl_ok x 11 (by omega) (by omega) h
theorem rot25 (x : W) (h : K (w32 (rotr x 25)) w) : callM Tryz.prog 207 #[w32 x, .int .i64 (-25)] K w := rotl_ok x 25 (by omega) (by omega) h
theorem rot2 (x : W) (h : K (w32 (rotr x 2)) w) : callM Tryz.prog 207 #[w32 x, .int .i64 (-2)] K w := rotl_ok x 2 (by omega) (by omega) h
theorem rot13 (x : W) (h : K (w32 (rotr x 13)) w) : callM Tryz.prog 207 #[w32 x, .int .i64 (-13)] K w := rotl_ok x 13 (by omega) (by omega) h
theorem rot22 (x : W) (h : K (w32 (rotr x 22)) w) : callM Tryz.prog 207 #[w32 x, .int .i64 (-22)] K w := rotl_ok x 22 (by omega) (by omega) h
theorem rot7 (x : W) (h : K (w32 (rotr x 7)) w) : callM Tryz.prog 207 #[w32 x, .int .i64 (-7)] K w := rotl_ok x 7 (by omega) (by omega) h
theorem rot18 (x : W) (h : K (w32 (rotr x 18)) w) : callM Tryz.prog 207 #[w32 x, .int .i64 (-18)] K w := rotl_ok x 18 (by omega) (by omega) h
theorem rot17 (x : W) (h : K (w32 (rotr x 17)) w) : callM Tryz.prog 207 #[w32 x, .int .i64 (-17)] K w := rotl_ok x 17 (by omega) (by omega) h
theorem rot19 (x : W) (h : K (w32 (rotr x 19)) w) : callM Tryz.prog 207 #[w32 x, .int .i64 (-19)] K w := rotl_ok x 19 (by omega) (by omega) h
def schL (b : List UInt8) (k : Nat) : List W := sched b k ++ List.replicate (64 - k) 0
theorem schL_length (b : List UInt8) (k : Nat) (hk : k ≤ 64) : (schL b k).length = 64 := by simp [schL, sched_length]; omega
theorem schL_next (b : List UInt8) (k : Nat) (hk : k < 64) : (schL b k).set k (nextW b (sched b k) k) = schL b (k + 1) := by
  unfold schL
  rw [List.set_append_right _ _ (by rw [sched_length]; omega), sched_length, Nat.sub_self]
  obtain ⟨m, hm⟩ : ∃ m, 64 - k = m + 1 := ⟨63 - k, by omega⟩
  rw [hm, List.replicate_succ, List.set_cons_zero, show 64 - (k + 1) = m by omega]
  simp [sched]
structure SchI (b : List UInt8) (g : Nat) (w0 : World) (k : Nat) (w' : World) : Prop where
  below : Below w0.heap.size w0 w'
  holds : Holds w' g 223 (ws (schL b k))
structure SchC (b : List UInt8) (g : Nat) (w0 : World) (k : Nat) (w' : World) : Prop where
  one : Below w0.heap.size w0 w'
  two : ∀ j, j < k → w'.cell? ⟨g, j, none⟩ = some (w32 (at' (sched b k) j))
theorem SchC.less {b : List UInt8} {g : Nat} {w0 w' : World} {k : Nat} (h : SchC b g w0 (k + 1) w') : SchC b g w0 k w' := by
  refine ⟨h.one, fun j hj => ?_⟩
  rw [h.two j (by omega)]
  have e : at' (sched b (k + 1)) j = at' (sched b k) j := by
    show (sched b k ++ [nextW b (sched b k) k]).getD j 0 = (sched b k).getD j 0
    rw [List.getD_eq_getElem?_getD, List.getElem?_append_left (by rw [sched_length]; omega), ← List.getD_eq_getElem?_getD]
  rw [e]
theorem schL_at (b : List UInt8) (k j : Nat) (hj : j < k) : (schL b k).getD j 0 = at' (sched b k) j := by
  unfold schL at'
  rw [List.getD_eq_getElem?_getD, List.getElem?_append_left (by rw [sched_length]; omega), ← List.getD_eq_getElem?_getD]
theorem SchI.c {b : List UInt8} {g : Nat} {w0 w' : World} {k : Nat} (hk : k ≤ 64) (h : SchI b g w0 k w') : SchC b g w0 k w' := by
  refine ⟨h.below, fun j hj => ?_⟩
  have hl := schL_length b k hk
  rw [h.holds.cell j (by simp [hl]; omega), ← schL_at b k j hj]
  simp [List.getD_eq_getElem?_getD, hl, show j < 64 by omega]
def SchJ (b : List UInt8) (g : Nat) (w0 : World) (l : List Value) (w' : World) : Prop := ∃ (v0 v1 v2 v3 v4 : Value) (k : Nat), l = [v0, v1, v2, v3, v4, .int .i64 (k : Int)] ∧ k ≤ 64 ∧ SchI b g w0 k w'
def schMu (l : List Value) (_ : World) : Nat := match l with | [_, _, _, _, _, .int _ i] => 64 - i.toNat | _ => 0
theorem schMu_eq (a b c d e : Value) (q : IntKind) (i : Int) (w : World) : schMu [a, b, c, d, e, .int q i] w = 64 - i.toNat := rfl
theorem SchI.drew {b : List UInt8} {g : Nat} {w0 w' : World} {k : Nat} (h : SchI b g w0 k w') : SchI b g w0 k { w' with drawn := w'.drawn + 1 } :=
  ⟨h.below.on .drawn, h.holds.next .drawn⟩
theorem SchI.set {b : List UInt8} {g : Nat} {w0 w' W : World} {k : Nat} (h : SchI b g w0 k w') (h0 : w0.heap.size ≤ g) (hk : k < 64) (hg : w'.grownBy W (some g)) (hh : Holds W g 223 ((ws (schL b k)).set k (w32 (nextW b (sched b k) k)))) : SchI b g w0 (k + 1) W := by
  refine ⟨grown_below h.below hg h0, ?_⟩
  rw [← schL_next b k hk]
  unfold ws at hh ⊢
  rw [List.map_set]
  exact hh
theorem schedule_ok (b : List UInt8) {B o c : Nat} (hl : b.length = 64) (hb : ByR w B o b) (k : ∀ w', Below w.heap.size w w' → K (.agg (ws (sched b 64)).toArray) w') : callM Tryz.prog 205 #[.slice (some ⟨B, o, none⟩) 64 c] K w := by
  apply sh_205_ok
  unfold sh_205
  refine arr_alloc al_64 fun g W hbW hgW hh => ?_
  refine ⟨SchJ b g w, schMu, ⟨_, _, _, _, _, 0, rfl, by omega, hbW, hh⟩, ?_⟩
  clear hh hbW W
  rintro _ _ w1 ⟨v0, v1, v2, v3, v4, i, rfl, hi, hI⟩
  have hc := (hI.c hi)
  by_cases hi64 : i < 64
  · repeat (any_goals (first
    | (with_reducible ((refine idCond ?_); refine yN ?_))
    | ((with_reducible refine idO ?_); (with_reducible refine oM_gen fun Kv hK=>?_); simp [go_sem]; refine hK _ _ ?_; clear hK; clear Kv)))
    refine ⟨fun _ w' => SchI b g w (i + 1) w', ?_, ?_⟩
    · by_cases h16 : i < 16
      · repeat (any_goals (first
        | (with_reducible ((refine idCond ?_); refine yN ?_))
        | ((with_reducible refine idO ?_); (with_reducible refine oM_gen fun Kv hK=>?_); simp [go_sem]; refine hK _ _ ?_; clear hK; clear Kv)))
        refine ⟨fun w' => Below w.heap.size w w', hI.drew.below, ?_⟩
        have hI := hI.drew
        have cb : ∀ j, j < 64 → ∀ w', Below w.heap.size w w' → w'.cell? ⟨B, o + j, none⟩ = some (.int .u8 ((b.getD j 0).toNat : Int)) := fun j hj w' hw => (hb.next hw).2 j (by omega)
        have t1 : (4 * (i : Int)).toNat = 4 * i := by omega
        have t2 : (4 * (i : Int) + 1).toNat = 4 * i + 1 := by omega
        have t3 : (4 * (i : Int) + 2).toNat = 4 * i + 2 := by omega
        have t4 : (4 * (i : Int) + 3).toNat = 4 * i + 3 := by omega
        have c1 := cb (4 * i) (by omega)
        have c2 := cb (4 * i + 1) (by omega)
        have c3 := cb (4 * i + 2) (by omega)
        have c4 := cb (4 * i + 3) (by omega)
        have w1 : IntKind.i64.wrap (4 * (i : Int)) = 4 * i := wrapI64 _ (by omega) (by omega)
        have w2 : IntKind.i64.wrap (4 * (i : Int) + 1) = 4 * i + 1 := wrapI64 _ (by omega) (by omega)
        have w3 : IntKind.i64.wrap (4 * (i : Int) + 2) = 4 * i + 2 := wrapI64 _ (by omega) (by omega)
        have w4 : IntKind.i64.wrap (4 * (i : Int) + 3) = 4 * i + 3 := wrapI64 _ (by omega) (by omega)
        repeat (any_goals (first
        | (with_reducible refine pureH_in ?_)
        | ((with_reducible refine idOH ?_); (with_reducible refine oH_of ⟨_, rfl⟩ (fun W0 hW0 => by (refine oM_gen (fun Kv hK => ?_)); simp [go_sem, w1, w2, w3, w4, t1, t2, t3, t4, c1 _ hW0, c2 _ hW0, c3 _ hW0, c4 _ hW0, conv_u8, shl24, shl16, shl8, wor]; (first | exact hK _ _ ⟨rfl, rfl⟩ | exact ⟨by omega, hK _ _ ⟨rfl, rfl⟩⟩)) ?_))))
        have en : nextW b (sched b i) i = w8 (b[4 * i]?.getD 0) <<< 24 ||| w8 (b[4 * i + 1]?.getD 0) <<< 16 ||| w8 (b[4 * i + 2]?.getD 0) <<< 8 ||| w8 (b[4 * i + 3]?.getD 0) := by
          unfold nextW word
          rw [if_pos h16]
          simp only [List.getD_eq_getElem?_getD]
        rw [← en]
        refine arr_set sz_u32 rfl rfl hI.holds (by simp [schL_length b i hi, hi64]) (fun W hg2 hh => ?_)
        have hI2 := hI.set hgW hi64 hg2 hh
        exact ⟨hI2.below, hI2⟩
      · repeat (any_goals (first
        | (with_reducible ((refine idCond ?_); refine yO ?_))
        | ((with_reducible refine idO ?_); (with_reducible refine oM_gen fun Kv hK=>?_); simp [go_sem]; refine hK _ _ ?_; clear hK; clear Kv)))
        have hI := hI.drew
        refine ⟨fun w' => w' = { w1 with drawn := w1.drawn + 1 }, rfl, ?_⟩
        generalize ({ w1 with drawn := w1.drawn + 1 } : World) = w2 at hI ⊢
        have hc := hI.c hi
        have w1 : IntKind.i64.wrap ((i : Int) - 15) = (i : Int) - 15 := wrapI64 _ (by omega) (by omega)
        have w2 : IntKind.i64.wrap ((i : Int) - 2) = (i : Int) - 2 := wrapI64 _ (by omega) (by omega)
        have w3 : IntKind.i64.wrap ((i : Int) - 16) = (i : Int) - 16 := wrapI64 _ (by omega) (by omega)
        have w4 : IntKind.i64.wrap ((i : Int) - 7) = (i : Int) - 7 := wrapI64 _ (by omega) (by omega)
        have t1 : ((i : Int) - 15).toNat = i - 15 := by omega
        have t2 : ((i : Int) - 2).toNat = i - 2 := by omega
        have t3 : ((i : Int) - 16).toNat = i - 16 := by omega
        have t4 : ((i : Int) - 7).toNat = i - 7 := by omega
        have c1 := hc.two (i - 15) (by omega)
        have c2 := hc.two (i - 2) (by omega)
        repeat (any_goals (first
        | (with_reducible first|refine And.intro (Eq.refl (α := World) _) ?_|refine forall_one ?_)
        | ((with_reducible refine idOQ ?_); ((with_reducible refine oQ_one ?_ ?_); exact ⟨_, rfl⟩))
        | ((with_reducible refine idO ?_); (with_reducible refine oM_gen fun Kv hK=>?_); simp [go_sem, t1, t2, c1, c2]; (try simp (disch := omega) only [wrapI64, wrapU8, wrapU32, wrapU64]); (first|refine hK _ _ ?_|refine And.intro (by omega) (hK _ _ ?_)); clear hK; clear Kv)))
        repeat (any_goals (first
        | (with_reducible refine rot7 _ ?_) | (with_reducible refine rot18 _ ?_) | (with_reducible refine rot17 _ ?_) | (with_reducible refine rot19 _ ?_)
        | ((with_reducible refine idO ?_); (with_reducible refine oM_gen fun Kv hK=>?_); simp [go_sem, shr3, shr10, wxor]; refine hK _ _ ?_; clear hK; clear Kv)))
        refine ⟨SchC b g w i, hI.drew.c hi, ?_⟩
        have hI := hI.drew
        repeat (any_goals (first
        | (with_reducible refine pureH_in ?_)
        | ((with_reducible refine idOH ?_); (with_reducible refine oH_of ⟨_, rfl⟩ (fun W0 hW0 => by (refine oM_gen (fun Kv hK => ?_)); simp [go_sem, w3, w4, t3, t4, hW0.two (i - 16) (by omega), hW0.two (i - 7) (by omega), wadd]; (first | exact hK _ _ ⟨rfl, rfl⟩ | exact ⟨by omega, hK _ _ ⟨rfl, rfl⟩⟩)) ?_))))
        have en : nextW b (sched b i) i = at' (sched b i) (i - 16) + sig0 (at' (sched b i) (i - 15)) + at' (sched b i) (i - 7) + sig1 (at' (sched b i) (i - 2)) := by
          unfold nextW
          rw [if_neg h16]
        unfold sig0 sig1 at en
        rw [← en]
        refine arr_set sz_u32 rfl rfl hI.holds (by simp [schL_length b i hi, hi64]) (fun W hg2 hh => ?_)
        have hI2 := hI.set hgW hi64 hg2 hh
        exact ⟨(hI2.c hi64).less, hI2⟩
    · rintro l u w2 hI2
      repeat (any_goals ((with_reducible refine idO ?_); (with_reducible refine oM_gen fun Kv hK=>?_); simp [go_sem]; (try simp (disch := omega) only [wrapI64, wrapU8, wrapU32, wrapU64]); refine hK _ _ ?_; clear hK; clear Kv))
      refine ⟨⟨_, _, _, _, _, i + 1, rfl, hi64, hI2⟩, ?_⟩
      simp only [schMu_eq]; omega
  · obtain rfl : i = 64 := by omega
    repeat (any_goals (first
    | (with_reducible ((refine idCond ?_); refine yM ?_))
    | ((with_reducible refine idO ?_); (with_reducible refine oM_gen fun Kv hK=>?_); simp [go_sem]; refine hK _ _ ?_; clear hK; clear Kv)))
    have hh := hI.holds
    have e64 : schL b 64 = sched b 64 := by simp [schL]
    rw [e64] at hh
    have hl64 := sched_length b 64
    generalize sched b 64 = sl at *
    refine arr_load hh un_64 rfl (by rw [List.length_map, hl64]; kernel_rfl) ?_
    refine arr_store sz_64 (xs := ws sl) rfl (by rw [List.length_map, hl64]) (ws_one _) hh (by rw [List.length_map, hl64]) (fun W hg2 hh => ?_)
    exact arr_ret hh un_64 rfl (by rw [List.length_map, hl64]; kernel_rfl) (k _ (grown_below hI.below hg2 hgW))
end
end Go.Proofs
namespace Go.Proofs
open Go Go.Sh Go.RowKit ShaSpec
set_option linter.unusedSimpArgs false
set_option linter.unusedVariables false
set_option maxRecDepth 10000
section
variable {K : Value → World → Prop} {w : World}
theorem build8 (T : TypeId) (a b c d e f g h : W) : oM Tryz.prog (Go.Op.build 202 #[(0, (.tmp 0)), (1, (.tmp 1)), (2, (.tmp 2)), (3, (.tmp 3)), (4, (.tmp 4)), (5, (.tmp 5)), (6, (.tmp 6)), (7, (.tmp 7))]) T [w32 a, w32 b, w32 c, w32 d, w32 e, w32 f, w32 g, w32 h] = pureM (stV ⟨a, b, c, d, e, f, g, h⟩) := by
  funext K w
  kernel_rfl
structure MixI (w0 : World) (gh gr gs gt gv : Nat) (s : St) (sl : List W) (v : List W) (w' : World) : Prop where
  below : Below w0.heap.size w0 w'
  h : Holds w' gh 202 (ws s.list)
  r : ∃ zs, zs.length = 8 ∧ Holds w' gr 202 zs
  sch : Holds w' gs 223 (ws sl)
  tab : Holds w' gt 223 (ws consts)
  v : Holds w' gv 202 (ws v)
variable {w0 w' : World} {gh gr gs gt gv : Nat} {s : St} {sl v : List W}
theorem MixI.next {w2 : World} (h : MixI w0 gh gr gs gt gv s sl v w') (hb : Below w'.heap.size w' w2) : MixI w0 gh gr gs gt gv s sl v w2 :=
  ⟨h.below.on hb, h.h.next hb, h.r.imp fun _ h => ⟨h.1, h.2.next hb⟩, h.sch.next hb, h.tab.next hb, h.v.next hb⟩
theorem MixI.drew (h : MixI w0 gh gr gs gt gv s sl v w') : MixI w0 gh gr gs gt gv s sl v { w' with drawn := w'.drawn + 1 } := h.next .drawn
structure Apart (n gh gr gs gt gv : Nat) : Prop where
  h : gh ≠ gv
  r : gr ≠ gv
  s : gs ≠ gv
  t : gt ≠ gv
  v : n ≤ gv
  r0 : n ≤ gr
theorem MixI.wrote {W2 : World} {u : List W} (ha : Apart w0.heap.size gh gr gs gt gv) (h : MixI w0 gh gr gs gt gv s sl v w') (hg : w'.grownBy W2 (some gv)) (hh : Holds W2 gv 202 (ws u)) : MixI w0 gh gr gs gt gv s sl u W2 :=
  ⟨grown_below h.below hg ha.v, h.h.other hg ha.h, h.r.imp fun _ h => ⟨h.1, h.2.other hg ha.r⟩, h.sch.other hg ha.s, h.tab.other hg ha.t, hh⟩
theorem holds_at {g : Nat} {T : TypeId} {l : List W} (h : Holds w' g T (ws l)) (i : Nat) (hi : i < l.length) : w'.cell? ⟨g, i, none⟩ = some (w32 (at' l i)) := by
  rw [h.cell i (by simpa using hi)]
  simp [at', List.getD_eq_getElem?_getD, hi]
def MixJ (w0 : World) (gh gr gs gt gv : Nat) (s : St) (b : List UInt8) (sl : List W) (l : List Value) (w' : World) : Prop := ∃ (v0 v1 v2 v3 v4 : Value) (k : Nat), l = [v0, v1, v2, v3, v4, .int .i64 (k : Int)] ∧ k ≤ 64 ∧ MixI w0 gh gr gs gt gv s sl (rounds b s k).list w'
def Zr (St : World → Prop) (j : Nat) (w' : World) : Prop := j = 0 → St w'
theorem zGet {St : World → Prop} {w' : World} (h : upto (Zr St) 0 w') : St w' := by
  obtain ⟨s, hs, hc⟩ := h
  exact hc (by omega)
def adL (v s : St) (i : Nat) : List W := (List.range 8).map fun j => if j < i then at' v.list j + at' s.list j else at' v.list j
theorem adL_length (v s : St) (i : Nat) : (adL v s i).length = 8 := by simp [adL]
theorem adL_at (v s : St) {i : Nat} (hi : i < 8) : at' (adL v s i) i = at' v.list i := by
  unfold adL
  conv => lhs; unfold at'
  rw [List.getD_eq_getElem?_getD, List.getElem?_map, List.getElem?_range hi]
  simp [at', List.getD_eq_getElem?_getD]
theorem adL_set (v s : St) {i : Nat} (hi : i < 8) : (adL v s i).set i (at' v.list i + at' s.list i) = adL v s (i + 1) := by
  unfold adL
  apply List.ext_getElem
  · simp
  · intro j h1 h2
    rw [List.getElem_set]
    simp only [List.getElem_map, List.getElem_range]
    by_cases hji : i = j
    · subst hji; simp
    · rw [if_neg hji]
      by_cases hlt : j < i
      · rw [if_pos hlt, if_pos (by omega)]
      · rw [if_neg hlt, if_neg (by omega)]
def AdJ (w0 : World) (gh gr gs gt gv : Nat) (s : St) (sl : List W) (v : St) (l : List Value) (w' : World) : Prop := ∃ (v0 : Value) (k : Nat), l = [v0, .int .i64 (k : Int)] ∧ k ≤ 8 ∧ MixI w0 gh gr gs gt gv s sl (adL v s k) w'
def adMu (l : List Value) (_ : World) : Nat := match l with | [_, .int _ i] => 8 - i.toNat | _ => 0
theorem adMu_eq (a : Value) (q : IntKind) (i : Int) (w : World) : adMu [a, .int q i] w = 8 - i.toNat := rfl
theorem rotQ6 {C : World → Prop} {KQ : Value → Prop} (x : W) (u : Unit) (k : KQ (w32 (rotr x 6))) : callQ Tryz.prog 207 #[w32 x, .int .i64 (-6)] C KQ := callQ_of (v := w32 (rotr x 6)) (fun w hw => rot6 x ⟨rfl, hw⟩) k
theorem rotQ11 {C : World → Prop} {KQ : Value → Prop} (x : W) (u : Unit) (k : KQ (w32 (rotr x 11))) : callQ Tryz.prog 207 #[w32 x, .int .i64 (-11)] C KQ := callQ_of (v := w32 (rotr x 11)) (fun w hw => rot11 x ⟨rfl, hw⟩) k
theorem rotQ25 {C : World → Prop} {KQ : Value → Prop} (x : W) (u : Unit) (k : KQ (w32 (rotr x 25))) : callQ Tryz.prog 207 #[w32 x, .int .i64 (-25)] C KQ := callQ_of (v := w32 (rotr x 25)) (fun w hw => rot25 x ⟨rfl, hw⟩) k
theorem rotQ2 {C : World → Prop} {KQ : Value → Prop} (x : W) (u : Unit) (k : KQ (w32 (rotr x 2))) : callQ Tryz.prog 207 #[w32 x, .int .i64 (-2)] C KQ := callQ_of (v := w32 (rotr x 2)) (fun w hw => rot2 x ⟨rfl, hw⟩) k
theorem rotQ13 {C : World → Prop} {KQ : Value → Prop} (x : W) (u : Unit) (k : KQ (w32 (rotr x 13))) : callQ Tryz.prog 207 #[w32 x, .int .i64 (-13)] C KQ := callQ_of (v := w32 (rotr x 13)) (fun w hw => rot13 x ⟨rfl, hw⟩) k
theorem rotQ22 {C : World → Prop} {KQ : Value → Prop} (x : W) (u : Unit) (k : KQ (w32 (rotr x 22))) : callQ Tryz.prog 207 #[w32 x, .int .i64 (-22)] C KQ := callQ_of (v := w32 (rotr x 22)) (fun w hw => rot22 x ⟨rfl, hw⟩) k
theorem schedule_ok' (b : List UInt8) {B o c : Nat} (hl : b.length = 64) (hb : ByR w B o b) (k : ∀ sl w', sl = sched b 64 → Below w.heap.size w w' → K (.agg (ws sl).toArray) w') : callM Tryz.prog 205 #[.slice (some ⟨B, o, none⟩) 64 c] K w :=
  schedule_ok b hl hb fun w' h => k _ w' rfl h
theorem mix_ok (s : St) (b : List UInt8) {B o c : Nat} (hl : b.length = 64) (hb : ByR w B o b) (k : ∀ w', Below w.heap.size w w' → K (stV (mix s b)) w') : callM Tryz.prog 185 #[stV s, .slice (some ⟨B, o, none⟩) 64 c] K w := by
  apply sh_185_ok
  unfold sh_185
  refine arr_box (cs := ws s.list) rfl fun gh w1 hb1 hg1 h1 => ?_
  refine arr_alloc al_words fun gr w2 hb2 hg2 h2 => ?_
  refine schedule_ok' b hl ((hb.next hb1).next hb2) fun sl w3 hsl hb3 => ?_
  refine table_ok fun w4 hb4 => ?_
  refine arr_alloc al_64 fun gs w5 hb5 hg5 h5 => ?_
  refine arr_alloc al_64 fun gt w6 hb6 hg6 h6 => ?_
  have hl64 : sl.length = 64 := by rw [hsl]; exact sched_length b 64
  refine arr_store sz_64 (xs := ws (sl)) rfl (by rw [List.length_map, hl64]) (ws_one _) (h5.next hb6) rfl (fun w7 hg7 h7 => ?_)
  have l5 := h5.lt
  have l2 := h2.lt
  have l1 := h1.lt
  have z2 := hb2.size
  have z3 := hb3.size
  have z4 := hb4.size
  have z5 := hb5.size
  have z6 := hb6.size
  have h6' := h6.other hg7 (show gt ≠ gs by omega)
  have z7 := hg7.size
  have l6 := h6.lt
  refine arr_store sz_64 (xs := ws consts) rfl rfl (ws_one _) h6' rfl (fun w8 hg8 h8 => ?_)
  have z8 := hg8.size
  have h7' := h7.other hg8 (show gs ≠ gt by omega)
  have q1 : Holds w8 gh 202 (ws s.list) := (((((((h1.next hb2).next hb3).next hb4).next hb5).next hb6).other hg7 (by omega)).other hg8 (by omega))
  have q2 : Holds w8 gr 202 (ws (List.replicate 8 0)) := ((((((h2.next hb3).next hb4).next hb5).next hb6).other hg7 (by omega)).other hg8 (by omega))
  have qb : Below w.heap.size w w8 := grown_below (grown_below (((((hb1.on hb2).on hb3).on hb4).on hb5).on hb6) hg7 (by have := hb1.size; omega)) hg8 (by have := hb1.size; omega)
  refine arr_load q1 un_words rfl (by kernel_rfl) ?_
  refine arr_alloc al_words fun gv w9 hb9 hg9 h9 => ?_
  refine arr_store sz_words (xs := ws s.list) rfl rfl (ws_one _) h9 rfl (fun w10 hg10 h10 => ?_)
  have hA : Apart w.heap.size gh gr gs gt gv := by
    have := hb1.size
    constructor <;> omega
  have hI : MixI w gh gr gs gt gv s (sl) s.list w10 :=
    ⟨grown_below (qb.on hb9) hg10 hA.v, (q1.next hb9).other hg10 hA.h, ⟨_, rfl, (q2.next hb9).other hg10 hA.r⟩, (h7'.next hb9).other hg10 hA.s, (h8.next hb9).other hg10 hA.t, h10⟩
  refine ⟨MixJ w gh gr gs gt gv s b sl, schMu, ⟨_, _, _, _, _, 0, rfl, by omega, hI⟩, ?_⟩
  clear hI h10 hg10 h9 hb9 qb q2 q1 h7' z8 h8 hg8 l6 z7 h6' z6 z5 z4 z3 z2 l1 l2 l5 h7 hg7 h6 hb6 h5 hb5 hb4 hb3 h2 hb2 h1 hb1
  rintro _ _ w1 ⟨v0, v1, v2, v3, v4, i, rfl, hi, hI⟩
  by_cases hi64 : i < 64
  · have e1 : rounds b s (i + 1) = round (rounds b s i) (at' consts i) (at' sl i) := by rw [hsl]; rfl
    obtain ⟨v', e2⟩ : ∃ v', v' = rounds b s (i + 1) := ⟨_, rfl⟩
    rw [← e2] at e1
    generalize rounds b s i = v at *
    repeat (any_goals (first
    | (with_reducible ((refine idCond ?_); refine yN ?_))
    | ((with_reducible refine idO ?_); (with_reducible refine oM_gen fun Kv hK=>?_); simp [go_sem]; refine hK _ _ ?_; clear hK; clear Kv)))
    refine ⟨fun w' => w' = { w1 with drawn := w1.drawn + 1 }, rfl, ?_⟩
    have hI := hI.drew
    generalize ({ w1 with drawn := w1.drawn + 1 } : World) = w2 at hI ⊢
    have c4 : w2.cell? ⟨gv, 4, none⟩ = some (w32 v.e) := holds_at hI.v 4 (show (4 : Nat) < 8 by decide)
    repeat (any_goals (first
    | (with_reducible refine rotQ6 _ () ?_) | (with_reducible refine rotQ11 _ () ?_) | (with_reducible refine rotQ25 _ () ?_) | (with_reducible refine rotQ2 _ () ?_) | (with_reducible refine rotQ13 _ () ?_) | (with_reducible refine rotQ22 _ () ?_)
    | (with_reducible first|refine And.intro (Eq.refl (α := World) _) ?_|refine forall_one ?_)
    | ((with_reducible refine idOQ ?_); ((with_reducible refine oQ_one ?_ ?_); exact ⟨_, rfl⟩))
    | ((with_reducible refine idO ?_); (with_reducible refine oM_gen fun Kv hK=>?_); simp [go_sem, c4, wxor]; refine hK _ _ ?_; clear hK; clear Kv)))
    have hI := hI.drew
    clear c4
    refine ⟨fun w' => w' = { w2 with drawn := w2.drawn + 1 }, rfl, ?_⟩
    generalize ({ w2 with drawn := w2.drawn + 1 } : World) = w3 at hI ⊢
    have c4 : w3.cell? ⟨gv, 4, none⟩ = some (w32 v.e) := holds_at hI.v 4 (show (4 : Nat) < 8 by decide)
    have c5 : w3.cell? ⟨gv, 5, none⟩ = some (w32 v.f) := holds_at hI.v 5 (show (5 : Nat) < 8 by decide)
    have c6 : w3.cell? ⟨gv, 6, none⟩ = some (w32 v.g) := holds_at hI.v 6 (show (6 : Nat) < 8 by decide)
    have c7 : w3.cell? ⟨gv, 7, none⟩ = some (w32 v.h) := holds_at hI.v 7 (show (7 : Nat) < 8 by decide)
    have ck := holds_at hI.tab i (by rw [consts_length]; exact hi64)
    have cs := holds_at hI.sch i (by rw [hl64]; exact hi64)
    repeat (any_goals (first
    | (with_reducible first|refine And.intro (Eq.refl (α := World) _) ?_|refine forall_one ?_)
    | ((with_reducible refine idOQ ?_); ((with_reducible refine oQ_one ?_ ?_); exact ⟨_, rfl⟩))
    | ((with_reducible refine idO ?_); (with_reducible refine oM_gen fun Kv hK=>?_); simp [go_sem, c4, c5, c6, c7, ck, cs, wxor, wadd, wand]; (first|refine hK _ _ ?_|refine And.intro (by omega) (hK _ _ ?_)); clear hK; clear Kv)))
    clear c4 c5 c6 c7 ck cs
    have hI := hI.drew
    refine ⟨fun w' => w' = { w3 with drawn := w3.drawn + 1 }, rfl, ?_⟩
    generalize ({ w3 with drawn := w3.drawn + 1 } : World) = w4 at hI ⊢
    have c0 : w4.cell? ⟨gv, 0, none⟩ = some (w32 v.a) := holds_at hI.v 0 (show (0 : Nat) < 8 by decide)
    have c1 : w4.cell? ⟨gv, 1, none⟩ = some (w32 v.b) := holds_at hI.v 1 (show (1 : Nat) < 8 by decide)
    have c2 : w4.cell? ⟨gv, 2, none⟩ = some (w32 v.c) := holds_at hI.v 2 (show (2 : Nat) < 8 by decide)
    have c3 : w4.cell? ⟨gv, 3, none⟩ = some (w32 v.d) := holds_at hI.v 3 (show (3 : Nat) < 8 by decide)
    have c4 : w4.cell? ⟨gv, 4, none⟩ = some (w32 v.e) := holds_at hI.v 4 (show (4 : Nat) < 8 by decide)
    have c5 : w4.cell? ⟨gv, 5, none⟩ = some (w32 v.f) := holds_at hI.v 5 (show (5 : Nat) < 8 by decide)
    have c6 : w4.cell? ⟨gv, 6, none⟩ = some (w32 v.g) := holds_at hI.v 6 (show (6 : Nat) < 8 by decide)
    repeat (any_goals (first
    | (with_reducible refine rotQ6 _ () ?_) | (with_reducible refine rotQ11 _ () ?_) | (with_reducible refine rotQ25 _ () ?_) | (with_reducible refine rotQ2 _ () ?_) | (with_reducible refine rotQ13 _ () ?_) | (with_reducible refine rotQ22 _ () ?_)
    | (with_reducible first|refine And.intro (Eq.refl (α := World) _) ?_|refine forall_one ?_)
    | ((with_reducible refine idOQ ?_); ((with_reducible refine oQ_one ?_ ?_); exact ⟨_, rfl⟩))
    | ((with_reducible refine idO ?_); (with_reducible refine oM_gen fun Kv hK=>?_); simp [go_sem, c0, c1, c2, c3, c4, c5, c6, wxor, wadd, wand, wor, build8]; refine hK _ _ ?_; clear hK; clear Kv)))
    refine arr_store sz_words (xs := ws v'.list) (by rw [e1]; rfl) rfl (ws_one _) hI.v rfl (fun w5 hg5 h5 => ?_)
    have hI := hI.wrote hA hg5 h5
    repeat (any_goals ((with_reducible refine idO ?_); (with_reducible refine oM_gen fun Kv hK=>?_); simp [go_sem]; (try simp (disch := omega) only [wrapI64, wrapU8, wrapU32, wrapU64]); refine hK _ _ ?_; clear hK; clear Kv))
    refine ⟨⟨_, _, _, _, _, i + 1, rfl, hi64, by rw [← e2]; exact hI⟩, ?_⟩
    simp only [schMu_eq]; omega
  · obtain rfl : i = 64 := by omega
    have em : stV (mix s b) = .agg (ws (adL (rounds b s 64) s 8)).toArray := rfl
    rw [em] at k
    clear em
    generalize rounds b s 64 = v at *
    repeat (any_goals (first
    | (with_reducible ((refine idCond ?_); refine yM ?_))
    | ((with_reducible refine idO ?_); (with_reducible refine oM_gen fun Kv hK=>?_); simp [go_sem]; refine hK _ _ ?_; clear hK; clear Kv)))
    refine ⟨AdJ w gh gr gs gt gv s sl v, adMu, ⟨_, 0, rfl, by omega, hI⟩, ?_⟩
    clear hI
    rintro _ _ w2 ⟨v0, j, rfl, hj, hI⟩
    by_cases hj8 : j < 8
    · repeat (any_goals (first
      | (with_reducible ((refine idCond ?_); refine yN ?_))
      | ((with_reducible refine idO ?_); (with_reducible refine oM_gen fun Kv hK=>?_); simp [go_sem]; refine hK _ _ ?_; clear hK; clear Kv)))
      have hI := hI.drew
      have cv := holds_at hI.v j (by rw [adL_length]; exact hj8)
      have ch := holds_at hI.h j (show j < 8 from hj8)
      rw [adL_at v s hj8] at cv
      refine ⟨Zr (fun w' => w'.cell? ⟨gv, j, none⟩ = some (w32 (at' v.list j)) ∧ w'.cell? ⟨gh, j, none⟩ = some (w32 (at' s.list j))), fun _ => ⟨cv, ch⟩, ?_⟩
      repeat (any_goals (first
      | (with_reducible refine pureH_in ?_)
      | ((with_reducible refine idOH ?_); (with_reducible refine oH_of ⟨_, rfl⟩ (fun W0 hW0 => by (refine oM_gen (fun Kv hK => ?_)); simp [go_sem, (zGet hW0).1, (zGet hW0).2, wadd]; (first | exact hK _ _ ⟨rfl, rfl⟩ | exact ⟨by omega, hK _ _ ⟨rfl, rfl⟩⟩)) ?_))))
      refine arr_set sz_u32 rfl rfl hI.v (by simp [adL, hj8]) (fun W hg2 hh => ?_)
      refine ⟨fun h => by omega, ?_⟩
      have hI := hI.wrote hA hg2 (u := adL v s (j + 1)) (by rw [← adL_set v s hj8]; unfold ws at hh ⊢; rw [List.map_set]; exact hh)
      repeat (any_goals ((with_reducible refine idO ?_); (with_reducible refine oM_gen fun Kv hK=>?_); simp [go_sem]; (try simp (disch := omega) only [wrapI64, wrapU8, wrapU32, wrapU64]); refine hK _ _ ?_; clear hK; clear Kv))
      refine ⟨⟨_, j + 1, rfl, hj8, hI⟩, ?_⟩
      simp only [adMu_eq]; omega
    · obtain rfl : j = 8 := by omega
      repeat (any_goals (first
      | (with_reducible ((refine idCond ?_); refine yM ?_))
      | ((with_reducible refine idO ?_); (with_reducible refine oM_gen fun Kv hK=>?_); simp [go_sem]; refine hK _ _ ?_; clear hK; clear Kv)))
      refine arr_load hI.v un_words rfl (by kernel_rfl) ?_
      obtain ⟨zs, hz, hr⟩ := hI.r
      refine arr_store sz_words (xs := ws (adL v s 8)) rfl rfl (ws_one _) hr hz (fun W hg2 hh => ?_)
      exact arr_ret hh un_words rfl (by kernel_rfl) (k _ (grown_below hI.below hg2 hA.r0))
end
end Go.Proofs
namespace Go.Proofs
open Go Go.Sh Go.RowKit ShaSpec
set_option linter.unusedSimpArgs false
set_option linter.unusedVariables false
set_option maxRecDepth 10000
section
variable {K : Value → World → Prop} {w w0 : World}
structure Buf (w0 : World) (v : Value) (l : List UInt8) (w : World) : Prop where
  below : Below w0.heap.size w0 w
  row : BufM w 5 v l
  own : ∀ i, v.ownBlock = some i → w0.heap.size ≤ i
theorem Buf.next {v : Value} {l : List UInt8} {w' : World} (h : Buf w0 v l w) (hb : Below w.heap.size w w') : Buf w0 v l w' := by
  refine ⟨h.below.on hb, h.row.keep (fun i hi => ?_), h.own⟩
  obtain ⟨g, c, rfl, hlt⟩ := h.row.shape
  cases hi
  exact hb.block g hlt
def lo8 (x : W) : UInt8 := UInt8.ofNat x.toNat
theorem conv_w8 (T : TypeId) (x : W) : oM Tryz.prog (.convert 200 5 (.tmp 0)) T [w32 x] = pureM (.int .u8 ((lo8 x).toNat : Int)) := by
  unfold lo8
  funext K w
  have e : IntKind.u8.wrap (x.toNat : Int) = ((UInt8.ofNat x.toNat).toNat : Int) := by
    rw [IntKind.wrap_u8, UInt8.toNat_ofNat']
    omega
  have e2 : (convert 200 5 (w32 x)).run Tryz.prog w = .ok (.int .u8 (IntKind.u8.wrap (x.toNat : Int))) w := by kernel_rfl
  rw [oM_convert, e2, e]
  rfl
theorem idx_st (T : TypeId) (s : St) (i : Nat) (hi : i < 8) : oM Tryz.prog (.index 202 (.tmp 0) (.tmp 1)) T [stV s, .int .i64 (i : Int)] = pureM (w32 (at' s.list i)) := by
  have e : ∀ w, (Instr.index 202 (stV s) (.int .i64 (i : Int))).run Tryz.prog w = .ok (w32 (at' s.list i)) w := by
    intro w
    rcases i with _ | _ | _ | _ | _ | _ | _ | _ | i
    all_goals first | omega | kernel_rfl
  funext K w
  rw [rM_of (S := Instr.index 202 (stV s) (.int .i64 (i : Int))) rfl, e]
  rfl
theorem mkB4 {T : TypeId} (a b c d : UInt8) (k : ∀ g W, Below w.heap.size w W → (∀ j u, (Lib.byteCells [a, b, c, d])[j]? = some u → W.cell? ⟨g, j, none⟩ = some u) → K (.slice (some ⟨g, 0, none⟩) 4 4) W) :
    oM Tryz.prog (.buildSlice 181 4 #[(0, .tmp 0), (1, .tmp 1), (2, .tmp 2), (3, .tmp 3)]) T [.int .u8 (a.toNat : Int), .int .u8 (b.toNat : Int), .int .u8 (c.toNat : Int), .int .u8 (d.toNat : Int)] K w := by
  have e : (Instr.buildSlice 181 4 #[(0, .int .u8 (a.toNat : Int)), (1, .int .u8 (b.toNat : Int)), (2, .int .u8 (c.toNat : Int)), (3, .int .u8 (d.toNat : Int))]).run Tryz.prog w = .ok (.slice (some ⟨w.heap.size, 0, none⟩) 4 4) (w.alloc (.cells (Lib.byteCells [a, b, c, d]).toArray 5)) := by kernel_rfl
  rw [rM_of (S := Instr.buildSlice 181 4 #[(0, .int .u8 (a.toNat : Int)), (1, .int .u8 (b.toNat : Int)), (2, .int .u8 (c.toNat : Int)), (3, .int .u8 (d.toNat : Int))]) (by simp [xop, execOp, evalL, evE]), e]
  refine k _ _ ((Below.refl _ w).alloc (Nat.le_refl _) _) (fun j u hj => ?_)
  have := World.cell?_alloc_at (w := w) (Lib.byteCells [a, b, c, d]).toArray 5 w.heap.size j rfl
  rw [this]
  simpa using hj
abbrev OwnB (w : World) (B : Nat) (v : Value) (l : List UInt8) : Prop := w.ownsRow B 5 1 v l.length (Lib.byteCells l)
theorem pushW {B : Nat} {T T' : TypeId} {v : Value} {l : List UInt8} (a b c d : UInt8) (ho : OwnB w B v l) (hB : B ≤ w.heap.size) (hl : l.length < 1099511627776) (k : ∀ v' w', OwnB w' B v' (l ++ [a, b, c, d]) → Below B w w' → K v' w') :
    oM Tryz.prog (.buildSlice 181 4 #[(0, .tmp 0), (1, .tmp 1), (2, .tmp 2), (3, .tmp 3)]) T [.int .u8 (a.toNat : Int), .int .u8 (b.toNat : Int), .int .u8 (c.toNat : Int), .int .u8 (d.toNat : Int)] (fun u w => oM Tryz.prog (.call { callee := .builtin .append, args := #[.tmp 0, .tmp 1], argTypes := #[181, 181] }) T' [v, u] K w) w := by
  refine mkB4 a b c d fun g W hb hc => ?_
  have ho2 : OwnB W B v l := owns_keep ho (fun i hi => hb.block i (owns_own ho hi).1)
  refine append_at 181 T' 5 ((Tryz.prog.info? 5).getD default) (.int .u8 0) 1 1 (by kernel_rfl) (by kernel_rfl) (by kernel_rfl) (by kernel_rfl) (by kernel_rfl) (by kernel_rfl) (by omega) (owns_base ho2 (Nat.zero_le _)) (Lib.byteCells [a, b, c, d]) rfl (by simp) ?_ ?_ (by simp only [maxLen]; omega) (by omega) ?_
  · rintro ad ha j u hj
    cases ha
    rw [add_none, Nat.zero_add]
    exact hc j u hj
  · intro u hu
    simp only [Lib.byteCells, List.mem_map] at hu
    obtain ⟨x, _, rfl⟩ := hu
    rfl
  · intro v' w' ho' hg hv
    have hbl : ∀ i, v.ownBlock = some i → B ≤ i := fun i hi => (owns_own ho hi).2.1
    have hBW := Nat.le_trans hB hb.size
    refine k v' w' ?_ ((hb.mono hB).grown hg hBW hbl)
    have e2 : Lib.byteCells (l ++ [a, b, c, d]) = Lib.byteCells l ++ Lib.byteCells [a, b, c, d] := by simp [Lib.byteCells]
    show w'.ownsRow B 5 1 v' (l ++ [a, b, c, d]).length (Lib.byteCells (l ++ [a, b, c, d]))
    rw [List.length_append, e2]
    refine ⟨ho'.1, ho'.2.imp id ?_⟩
    rintro ⟨g, cap, cur, rfl, hb', hr⟩
    exact ⟨g, cap, cur, rfl, (hv g rfl).elim (hbl g) (fun h => Nat.le_trans hBW h), hr⟩
theorem toStrB {B : Nat} {T : TypeId} {v : Value} {l : List UInt8} (ho : OwnB w B v l) (hne : 0 < l.length) (k : K (.string ⟨l.toArray⟩) w) : oM Tryz.prog (.convert 181 9 (.tmp 0)) T [v] K w := by
  obtain ⟨g, cap, cur, rfl, hlt, _, _, _, _, hc⟩ := owns_cells ho hne
  have := run_convert_bytes_back (P := Tryz.prog) w 181 9 5 ⟨g, 0, none⟩ cap l (by kernel_rfl) (by kernel_rfl) (by kernel_rfl) (fun j hj => by
    rw [add_none, Nat.zero_add]
    exact hc j _ (by simp [Lib.byteCells, hj]))
  rw [rM_of (S := convert 181 9 (.slice (some ⟨g, 0, none⟩) l.length cap)) rfl, this]
  exact k
theorem sliceTo64 {T : TypeId} {a : Option Addr} {n c : Nat} (hc : 64 ≤ c) (k : K (.slice a 64 c) w) : oM Tryz.prog (.slice 181 (.tmp 0) none (some (.tmp 1)) none) T [.slice a n c, .int .i64 64] K w :=
  sliceTo_at (by kernel_rfl) (sz := 1) (fun w => by kernel_rfl) 64 hc k
theorem sliceFrom64 {T : TypeId} {g o n c : Nat} (hn : 64 ≤ n) (hc : n ≤ c) (k : ∀ ad, (64 < c → ad = some ⟨g, o + 64, none⟩) → K (.slice ad (n - 64) (c - 64)) w) : oM Tryz.prog (.slice 181 (.tmp 0) (some (.tmp 1)) none none) T [.slice (some ⟨g, o, none⟩) n c, .int .i64 64] K w := by
  have hs : ∀ w, (sizeOf (Tryz.prog.elem 181)).run Tryz.prog w = .ok 1 w := fun w => by kernel_rfl
  rw [oM_sliceFrom, run_sliceAt_slice w 181 _ _ _ _ (by kernel_rfl), run_slice_l w 181 _ n c (by kernel_rfl) .i64 64 (by omega) (by omega), hs]
  simp only [Result.andThen_ok, sliced]
  refine k _ (fun h => ?_)
  rw [if_neg (show ¬ c = (64 : Int).toNat by show ¬ c = 64; omega)]
  rfl
theorem ofStr (l : List UInt8) {T : TypeId} (k : ∀ v w', Buf w v l w' → K v w') : oM Tryz.prog (.convert 9 181 (.tmp 0)) T [.string ⟨l.toArray⟩] K w := by
  refine ofStr_at (e := 5) (by kernel_rfl) (by kernel_rfl) (by kernel_rfl) l (fun v w' hb hg ho hs => k v w' ⟨(Below.refl _ _).grown hg (Nat.le_refl _) (fun i hi => by cases hi), hb, fun i hi => ?_⟩)
  rw [ho] at hi
  cases hi
  exact Nat.le_refl _
theorem mkB1 {T : TypeId} (x : UInt8) (k : ∀ g W, Below w.heap.size w W → W.cell? ⟨g, 0, none⟩ = some (.int .u8 (x.toNat : Int)) → K (.slice (some ⟨g, 0, none⟩) 1 1) W) : oM Tryz.prog (.buildSlice 181 1 #[(0, .tmp 0)]) T [.int .u8 (x.toNat : Int)] K w := by
  rw [oM_buildSlice1]
  have e : (Instr.buildSlice 181 1 #[(0, .int .u8 (x.toNat : Int))]).run Tryz.prog w = .ok (.slice (some ⟨w.heap.size, 0, none⟩) 1 1) (w.alloc (.cells #[.int .u8 (x.toNat : Int)] 5)) := by kernel_rfl
  rw [e]
  refine k _ _ ((Below.refl _ w).alloc (Nat.le_refl _) _) ?_
  have := World.cell?_alloc_at (w := w) #[.int .u8 (x.toNat : Int)] 5 w.heap.size 0 rfl
  rw [this]
  rfl
theorem push {T T' : TypeId} {v : Value} {l : List UInt8} (x : UInt8) {n : Int} (hx : n = (x.toNat : Int)) (h : Buf w0 v l w) (hl : l.length + 1 ≤ 1099511627776) (k : ∀ v' w', Buf w0 v' (l ++ [x]) w' → K v' w') :
    oM Tryz.prog (.buildSlice 181 1 #[(0, .tmp 0)]) T [.int .u8 n] (fun u w => oM Tryz.prog (.call { callee := .builtin .append, args := #[.tmp 0, .tmp 1], argTypes := #[181, 181] }) T' [v, u] K w) w := by
  subst hx
  refine mkB1 x fun g W hb hc => ?_
  have h := h.next hb
  refine pushB_at (e := 5) (i := (Tryz.prog.info? 5).getD default) (by kernel_rfl) (by kernel_rfl) (by kernel_rfl) (by kernel_rfl) (by kernel_rfl) h.row hc hl (fun v' w' hb' hg hv => k v' w' ⟨h.below.grown hg h.below.size h.own, hb', fun i hi => ?_⟩)
  rcases hv with hv | ⟨g', hv, hlt⟩
  · exact h.own i (by rw [← hv]; exact hi)
  · rw [hv] at hi
    cases hi
    exact Nat.le_trans h.below.size hlt
theorem bufByR {g n c : Nat} {l : List UInt8} (h : BufM w 5 (.slice (some ⟨g, 0, none⟩) n c) l) : ByR w g 0 l := by
  obtain ⟨g', cap, cur, fz, hv, hg, hfz, hcs, hlc, hcell⟩ := h
  cases hv
  refine ⟨(Array.getElem?_eq_some_iff.1 hg).1, fun i hi => ?_⟩
  rw [Nat.zero_add, cell_of_block hg, hcell i hi]
  simp [List.getD_eq_getElem?_getD, hi]
theorem bufCap {g n c : Nat} {l : List UInt8} {v : Value} (h : BufM w 5 v l) (e : v = .slice (some ⟨g, 0, none⟩) n c) : l.length ≤ c := by
  obtain ⟨g', cap, cur, fz, hv, hg, hfz, hcs, hlc, hcell⟩ := h
  rw [e] at hv
  cases hv
  exact hlc
theorem ByR.other {b o g : Nat} {l : List UInt8} {w' : World} (h : ByR w b o l) (hg : w.grownBy w' (some g)) (hne : b ≠ g) : ByR w' b o l :=
  ⟨Nat.lt_of_lt_of_le h.1 hg.size, fun i hi => by
    rw [← h.2 i hi]
    unfold World.cell?
    rw [hg.block b h.1 (fun e => hne (by cases e; rfl))]⟩
theorem ByR.part {b o : Nat} {l : List UInt8} (h : ByR w b o l) (i n : Nat) (hn : i + n ≤ l.length) : ByR w b (o + i) ((l.drop i).take n) := by
  refine ⟨h.1, fun j hj => ?_⟩
  have hj' : j < n := by rw [List.length_take, List.length_drop] at hj; omega
  rw [Nat.add_assoc, h.2 (i + j) (by omega)]
  congr 3
  rw [List.getD_eq_getElem?_getD, List.getD_eq_getElem?_getD, List.getElem?_take_of_lt hj', List.getElem?_drop]
def BkJ (w0 : World) (g gb : Nat) (p : List UInt8) (m : Nat) (R : St) (l : List Value) (w' : World) : Prop :=
  ∃ (ad : Option Addr) (c t : Nat) (st : St), l = [.slice ad (64 * (m - t)) c] ∧ t ≤ m ∧ 64 * (m - t) ≤ c ∧ (t < m → ad = some ⟨gb, 64 * t, none⟩) ∧ Below w0.heap.size w0 w' ∧ ByR w' gb 0 p ∧ Holds w' g 202 (ws st.list) ∧ blocks (m - t) st (p.drop (64 * t)) = R
def bkMu (l : List Value) (_ : World) : Nat := match l with | [.slice _ m _] => m | _ => 0
theorem bkMu_eq (m c : Nat) (a : Option Addr) (w : World) : bkMu [.slice a m c] w = m := rfl
def outL (st : St) (i : Nat) : List UInt8 := ((st.list.take i).map out1).flatten
theorem outL_length (st : St) (i : Nat) (hi : i ≤ 8) : (outL st i).length = 4 * i := by
  unfold outL St.list
  rcases i with _ | _ | _ | _ | _ | _ | _ | _ | _ | i
  all_goals first | omega | rfl
theorem out1_eq (x : W) : out1 x = [lo8 (x >>> 24), lo8 (x >>> 16), lo8 (x >>> 8), lo8 x] := by
  simp only [out1, lo8, BitVec.toNat_ushiftRight, Nat.shiftRight_eq_div_pow]
theorem outL_next (st : St) (i : Nat) (hi : i < 8) : outL st (i + 1) = outL st i ++ [lo8 (at' st.list i >>> 24), lo8 (at' st.list i >>> 16), lo8 (at' st.list i >>> 8), lo8 (at' st.list i)] := by
  rw [← out1_eq]
  unfold outL
  have hl : i < st.list.length := hi
  rw [List.take_add_one, List.getElem?_eq_getElem hl, List.map_append, List.flatten_append]
  simp [at', List.getD_eq_getElem?_getD, hl]
def OutJ (w0 : World) (st : St) (l : List Value) (w' : World) : Prop := ∃ (u v : Value) (i : Nat), l = [u, v, .int .i64 (i : Int)] ∧ i ≤ 8 ∧ OwnB w' w0.heap.size v (outL st i) ∧ Below w0.heap.size w0 w'
def outMu (l : List Value) (_ : World) : Nat := match l with | [_, _, .int _ i] => 8 - i.toNat | _ => 0
theorem outMu_eq (a b : Value) (q : IntKind) (i : Int) (w : World) : outMu [a, b, .int q i] w = 8 - i.toNat := rfl
def ZeJ (w0 : World) (s : List UInt8) (l : List Value) (w' : World) : Prop := ∃ v j, l = [v] ∧ j ≤ zeros s.length ∧ Buf w0 v (s ++ [128] ++ List.replicate j 0) w'
theorem sha_len (s : List UInt8) (j : Nat) : (s ++ [(128 : UInt8)] ++ List.replicate j 0).length = s.length + 1 + j := by simp; omega
def zeMu (n : Nat) (l : List Value) (_ : World) : Nat := match l with | [.slice _ m _] => n - m | _ => 0
theorem zeMu_eq (n m c : Nat) (a : Option Addr) (w : World) : zeMu n [.slice a m c] w = n - m := rfl
def LeJ (w0 : World) (s : List UInt8) (l : List Value) (w' : World) : Prop := ∃ (v : Value) (j : Nat), l = [v, .int .i64 (56 - 8 * (j : Int))] ∧ j ≤ 8 ∧ Buf w0 v (s ++ [128] ++ List.replicate (zeros s.length) 0 ++ (lenBytes s.length).take j) w'
def leMu (l : List Value) (_ : World) : Nat := match l with | [_, .int _ i] => (i + 8).toNat | _ => 0
theorem leMu_eq (a : Value) (q : IntKind) (i : Int) (w : World) : leMu [a, .int q i] w = (i + 8).toNat := rfl
theorem lenByte (n j : Nat) (hj : j < 8) (hn : n < 1099511627776) : (IntKind.u8.wrap (8 * (n : Int) / 2 ^ (56 - 8 * (j : Int)).toNat)) = (((lenBytes n).getD j 0).toNat : Int) := by
  have e1 : 8 * (n : Int) = ((8 * n : Nat) : Int) := by omega
  have e2 : (56 - 8 * (j : Int)).toNat = 8 * (7 - j) := by omega
  have e3 : (lenBytes n).getD j 0 = UInt8.ofNat (8 * n / 2 ^ (8 * (7 - j))) := by
    unfold lenBytes
    rcases j with _ | _ | _ | _ | _ | _ | _ | _ | j <;> first | rfl | omega
  rw [e1, e2, e3, IntKind.wrap_u8, UInt8.toNat_ofNat']
  generalize 8 * (7 - j) = q
  have : ((8 * n : Nat) : Int) / 2 ^ q = ((8 * n / 2 ^ q : Nat) : Int) := by
    rw [Int.natCast_ediv, Int.natCast_pow]; rfl
  rw [this]
  omega
theorem take_next (l : List UInt8) (j : Nat) (hj : j < l.length) : l.take (j + 1) = l.take j ++ [l.getD j 0] := by
  rw [List.take_add_one, List.getD_eq_getElem?_getD, List.getElem?_eq_getElem hj]
  rfl
theorem Sha_ok (s : List UInt8) (hs : s.length ≤ 1000000000) (k : ∀ w', Below w.heap.size w w' → K (.string ⟨(sha s).toArray⟩) w') : callM Tryz.prog 144 #[.string ⟨s.toArray⟩] K w := by
  apply sh_144_ok
  unfold sh_144
  refine ofStr s fun v1 w1 h1 => ?_
  refine push 128 rfl h1 (by omega) (fun v2 w2 h2 => ?_)
  refine ⟨ZeJ w s, zeMu (s.length + 1 + zeros s.length), ⟨_, 0, rfl, by omega, by simpa using h2⟩, ?_⟩
  clear h2 w2 v2 h1 w1 v1
  rintro _ _ w1 ⟨v1, j, rfl, hj, h1⟩
  obtain ⟨g1, c1, rfl, hlt1⟩ := h1.row.shape
  have hz : zeros s.length < 64 := by unfold zeros; omega
  by_cases hjz : j < zeros s.length
  · have hm : ¬ ((s.length : Int) + 1 + (j : Int)).tmod 64 = 56 := by
      rw [Int.tmod_eq_emod_of_nonneg (by omega)]; unfold zeros at hjz; omega
    rw [sha_len] at *
    repeat (any_goals (first
    | ((with_reducible refine push 0 rfl h1 (by rw [sha_len]; omega) ?_); intro v2 w2 h2)
    | (with_reducible ((refine idCond ?_); refine yL ?_))
    | ((with_reducible refine idO ?_); (with_reducible refine oM_gen fun Kv hK=>?_); simp [go_sem, hm]; refine hK _ _ ?_; clear hK; clear Kv)))
    have e : s ++ [(128 : UInt8)] ++ List.replicate j 0 ++ [0] = s ++ [128] ++ List.replicate (j + 1) 0 := by
      simp [List.replicate_succ', List.append_assoc]
    rw [e] at h2
    obtain ⟨g2, c2, rfl, hlt2⟩ := h2.row.shape
    refine ⟨⟨_, j + 1, rfl, hjz, h2⟩, ?_⟩
    rw [sha_len]
    simp only [zeMu_eq]; omega
  · obtain rfl : j = zeros s.length := by omega
    have hm : ((s.length : Int) + 1 + (zeros s.length : Int)).tmod 64 = 56 := by
      rw [Int.tmod_eq_emod_of_nonneg (by omega)]; unfold zeros; omega
    rw [sha_len] at *
    repeat (any_goals (first
    | (with_reducible ((refine idCond ?_); refine yM ?_))
    | ((with_reducible refine idO ?_); (with_reducible refine oM_gen fun Kv hK=>?_); simp [go_sem, hm]; refine hK _ _ ?_; clear hK; clear Kv)))
    refine ⟨LeJ w s, leMu, ⟨_, 0, rfl, by omega, by simpa using h1⟩, ?_⟩
    clear h1 hlt1 hm
    rintro _ _ w1 ⟨v1, j, rfl, hj, h1⟩
    have hle : (s ++ [(128 : UInt8)] ++ List.replicate (zeros s.length) 0 ++ (lenBytes s.length).take j).length = s.length + 1 + zeros s.length + j := by
      rw [List.length_append, sha_len, List.length_take, lenBytes_length]; omega
    by_cases hj8 : j < 8
    · have hq : IntKind.u64.wrap (s.length : Int) = (s.length : Int) := wrapU64 _ (by omega) (by omega)
      have hsh := fun t t' T x => oM_shr64 (P := Tryz.prog) t t' T .i64 x (56 - 8 * (j : Int)) (by omega) (by omega)
      repeat (any_goals (first
      | ((with_reducible refine push ((lenBytes s.length).getD j 0) (lenByte _ _ hj8 (by omega)) h1 (by omega) ?_); intro v2 w2 h2)
      | (with_reducible ((refine idCond ?_); refine yN ?_))
      | ((with_reducible refine idO ?_); (with_reducible refine oM_gen fun Kv hK=>?_); simp [go_sem, hq, hsh]; (try simp (disch := omega) only [wrapI64, wrapU8, wrapU32, wrapU64]); refine hK _ _ ?_; clear hK; clear Kv)))
      refine ⟨⟨_, j + 1, by rw [show 56 - 8 * (j : Int) - 8 = 56 - 8 * ((j + 1 : Nat) : Int) by omega], hj8, ?_⟩, ?_⟩
      · rw [take_next _ _ (by rw [lenBytes_length]; exact hj8), ← List.append_assoc]
        exact h2
      · simp only [leMu_eq]; omega
    · obtain rfl : j = 8 := by omega
      rw [List.take_of_length_le (by rw [lenBytes_length]; omega)] at h1 hle
      have hpad : s ++ [(128 : UInt8)] ++ List.replicate (zeros s.length) 0 ++ lenBytes s.length = padded s := rfl
      rw [hpad] at h1 hle
      have hp64 := padded_length s
      obtain ⟨m, hm⟩ : ∃ m, (padded s).length = 64 * m := ⟨(padded s).length / 64, by omega⟩
      repeat (any_goals (first
      | (with_reducible ((refine idCond ?_); refine yM ?_))
      | ((with_reducible refine idO ?_); (with_reducible refine oM_gen fun Kv hK=>?_); simp [go_sem]; refine hK _ _ ?_; clear hK; clear Kv)))
      refine first_ok fun w2 hb2 => ?_
      have h2 := h1.next hb2
      refine arr_alloc al_words fun g w3 hb3 hg3 h3 => ?_
      have h4 := h2.next hb3
      obtain ⟨gb, c, rfl, hlt⟩ := h2.row.shape
      refine arr_store sz_words (xs := ws first.list) rfl rfl (ws_one _) h3 rfl (fun w4 hg4 hh => ?_)
      have zb := h1.below.size
      have hby := (bufByR h4.row).other hg4 (by omega)
      have hbw : Below w.heap.size w w4 := grown_below h4.below hg4 (by have := hb2.size; have := h2.below.size; omega)
      have ef : sha s = ((blocks m first (padded s)).list.map out1).flatten := by
        unfold sha
        rw [hm, Nat.mul_div_cancel_left m (by omega)]
      refine ⟨BkJ w g gb (padded s) m (blocks m first (padded s)), bkMu, ⟨_, _, 0, first, by rw [hm]; rfl, by omega, by have := bufCap h4.row rfl; omega, fun _ => rfl, hbw, hby, hh, rfl⟩, ?_⟩
      have hgw : w.heap.size ≤ g := Nat.le_trans h2.below.size hg3
      have hgb : gb ≠ g := by omega
      clear hh hby hbw hg4 h4 hlt h3 hg3 hb3 h2 hb2 h1 zb w4 w3 w2
      rintro _ _ w2 ⟨ad, c, t, st, rfl, ht, hc, had, hbw, hby, hh, hbl⟩
      by_cases htm : t < m
      · obtain ⟨r, hr⟩ : ∃ r, m - t = r + 1 := ⟨m - t - 1, by omega⟩
        obtain rfl := had htm
        rw [hr] at hbl hc ⊢
        repeat (any_goals (first
        | (with_reducible ((refine idCond ?_); refine yN ?_))
        | ((with_reducible refine idO ?_); (with_reducible refine oM_gen fun Kv hK=>?_); simp [go_sem]; refine hK _ _ ?_; clear hK; clear Kv)))
        refine ⟨Zr (fun w' => w' = { w2 with drawn := w2.drawn + 1 }), fun _ => rfl, ?_⟩
        have hh := hh.next (.drawn (B := w2.heap.size))
        have hby := hby.next (.drawn (B := w2.heap.size))
        have hbw := hbw.on (.drawn (B := w2.heap.size))
        generalize ({ w2 with drawn := w2.drawn + 1 } : World) = w3 at hh hby hbw ⊢
        refine oH_of (v := stV st) ⟨_, rfl⟩ (fun W0 hW0 => by
          obtain rfl := zGet hW0
          exact arr_load hh un_words rfl (by kernel_rfl) ⟨rfl, rfl⟩) ?_
        refine pureH_in ?_
        refine oH_of (v := .slice (some ⟨gb, 64 * t, none⟩) 64 c) ⟨_, rfl⟩ (fun W0 hW0 => sliceTo64 (by omega) ⟨rfl, rfl⟩) ?_
        have hpart := hby.part (64 * t) 64 (by omega)
        rw [Nat.zero_add] at hpart
        refine mix_ok st _ (by rw [List.length_take, List.length_drop]; omega) hpart (fun w4 hb4 => ?_)
        refine ⟨fun h => by omega, ?_⟩
        refine arr_store sz_words (xs := ws (mix st _).list) rfl rfl (ws_one _) (hh.next hb4) rfl (fun w5 hg5 hh5 => ?_)
        refine ⟨fun h => by omega, ?_⟩
        refine sliceFrom64 (by omega) (by omega) (fun ad' had' => ?_)
        have e1 : 64 * (r + 1) - 64 = 64 * (m - (t + 1)) := by omega
        rw [e1]
        refine ⟨⟨ad', c - 64, t + 1, _, rfl, by omega, by omega, fun h => had' (by omega), grown_below (hbw.on hb4) hg5 hgw, (hby.next hb4).other hg5 hgb, hh5, ?_⟩, ?_⟩
        · rw [show m - (t + 1) = r by omega, ← hbl]
          show _ = blocks r (mix st ((List.drop (64 * t) (padded s)).take 64)) ((List.drop (64 * t) (padded s)).drop 64)
          rw [List.drop_drop, show 64 * t + 64 = 64 * (t + 1) by omega]
        · simp only [bkMu_eq]; omega
      · obtain rfl : t = m := by omega
        rw [Nat.sub_self] at hbl ⊢
        repeat (any_goals (first
        | (with_reducible ((refine idCond ?_); refine yM ?_))
        | ((with_reducible refine idO ?_); (with_reducible refine oM_gen fun Kv hK=>?_); simp [go_sem]; refine hK _ _ ?_; clear hK; clear Kv)))
        refine arr_load hh un_words rfl (by kernel_rfl) ?_
        have hst : st = blocks t first (padded s) := hbl
        rw [← hst] at ef
        refine ⟨OutJ w st, outMu, ⟨_, _, 0, rfl, by omega, ⟨rfl, .inl ⟨rfl, rfl⟩⟩, hbw⟩, ?_⟩
        rintro _ _ w3 ⟨u3, v3, i, rfl, hi, ho, hb3⟩
        by_cases hi8 : i < 8
        · have hix := fun T => idx_st T st i hi8
          repeat (any_goals (first
          | ((with_reducible refine pushW _ _ _ _ ho hb3.size (by have := outL_length st i hi; omega) ?_); intro v4 w4 ho4 hb4)
          | (with_reducible ((refine idCond ?_); refine yN ?_))
          | ((with_reducible refine idO ?_); (with_reducible refine oM_gen fun Kv hK=>?_); simp [go_sem, hix, shr24, shr16, shr8, conv_w8]; (try simp (disch := omega) only [wrapI64, wrapU8, wrapU32, wrapU64]); refine hK _ _ ?_; clear hK; clear Kv)))
          rw [← outL_next st i hi8] at ho4
          refine ⟨⟨_, _, i + 1, rfl, hi8, ho4, hb3.trans hb4⟩, ?_⟩
          simp only [outMu_eq]; omega
        · obtain rfl : i = 8 := by omega
          have e8 : outL st 8 = sha s := by rw [ef]; rfl
          repeat (any_goals (first
          | ((with_reducible refine toStrB ho (by rw [outL_length st 8 (by omega)]; omega) ?_))
          | (with_reducible ((refine idCond ?_); refine yM ?_))
          | ((with_reducible refine idO ?_); (with_reducible refine oM_gen fun Kv hK=>?_); simp [go_sem]; refine hK _ _ ?_; clear hK; clear Kv)))
          rw [e8]
          exact k _ hb3
end
end Go.Proofs
namespace Go.Sh
open Go Go.RowKit
abbrev Nx (w w' : World) : Prop := Below w.heap.size w w'
variable {S : World → World → Prop} {A N : (Value → World → Prop) → Prop}
theorem monoE {x : Value} (h : A (fun v _ => v = x)) (n : N (fun v _ => v = x)) : ∃ R : Value → World → Prop, (∀ v w w1, S w w1 → R v w → R v w1) ∧ A R ∧ N R := ⟨_, fun _ _ _ _ h => h, h, n⟩
theorem monoR (R : Value → World → Prop) (hs : ∀ v w w1, S w w1 → R v w → R v w1) (h : A R) (n : N R) : ∃ R : Value → World → Prop, (∀ v w w1, S w w1 → R v w → R v w1) ∧ A R ∧ N R := ⟨R, hs, h, n⟩
end Go.Sh
namespace TkSpec
open FdSpec CodeSpec
def numStep (n : Int) (out : Int) (b : UInt8) : Int := addM n (mulM n out 256) (b.toNat : Int)
def numberM (s : List UInt8) (n : Int) : Int := if okN n then (ShaSpec.sha s).foldl (numStep n) 0 else 0
def innL (t : Tkt) : List Int := [t.mark, t.first, t.z, t.a, t.b]
def innerQ (s : Stp) (t : Tkt) : Int := numberM (encNums (innL t)) s.g.Q
def askTkt (s : Stp) (attrs : List Int) (o : Off) (b : Bld) : Tkt :=
  ⟨powerG s.g (usableM s attrs).1 b.s, (prodG s.g s.bases b.ys).1, powerG s.g o.z b.s, timesM s (powerG s.g o.a b.u) [genM s b.v],
    timesM s (powerG s.g o.b (mulQ s b.s [b.u])) [powerG s.g (powerG s.g (usableM s attrs).1 b.s) b.v], 0⟩
def askFine (s : Stp) (key : Int) (attrs : List Int) (o : Off) (b : Bld) : Bool :=
  (usableM s attrs).2 && keyM s key && elementsM s [o.z, o.a, o.b] && !decide (o.z = 1) && blindsM s b
def askErr (s : Stp) (key : Int) (attrs : List Int) (o : Off) (b : Bld) : Int :=
  if askFine s key attrs o b then (if innerQ s (askTkt s attrs o b) = 0 then 7 else 0) else 1
def askC (s : Stp) (attrs : List Int) (o : Off) (b : Bld) : Int := overQ s (innerQ s (askTkt s attrs o b)) b.u
def askM (s : Stp) (key : Int) (attrs : List Int) (o : Off) (b : Bld) : Int × Int :=
  (if askErr s key attrs o b = 0 then askC s attrs o b else 0, askErr s key attrs o b)
def signedM (s : Stp) (key m c r : Int) (o : Off) : Bool :=
  decide (genM s r = timesM s (powerG s.g key c) [o.a]) && decide (powerG s.g m r = timesM s (powerG s.g o.z c) [o.b])
def zT : Tkt := ⟨0, 0, 0, 0, 0, 0⟩
def finishM (s : Stp) (key : Int) (attrs : List Int) (o : Off) (b : Bld) (r : Int) : Tkt × Int :=
  if askErr s key attrs o b ≠ 0 then (zT, askErr s key attrs o b)
  else if !numsM s 0 [r] then (zT, 1)
  else if !signedM s key (usableM s attrs).1 (askC s attrs o b) r o then (zT, 14)
  else ({ askTkt s attrs o b with r := plusQ s (mulQ s r [b.u]) b.v }, 0)
end TkSpec
namespace Go.Proofs
open Go Go.Sh Go.RowKit FdSpec TkSpec CodeSpec
set_option linter.unusedSimpArgs false
set_option linter.unusedVariables false
set_option maxRecDepth 10000
section
variable {K : Value → World → Prop} {w w0 : World} {L : List (Addr × Value)}
def NuJ (n R : Int) (d : List UInt8) (w0 : World) (l : List Value) (w' : World) : Prop := Below w0.heap.size w0 w' ∧ ∃ (v : Value) (o : Int) (i : Nat), l = [v, .int .i64 o, .int .i64 (i : Int)] ∧ i ≤ d.length ∧ (d.drop i).foldl (numStep n) o = R
theorem Number_ok (s : List UInt8) (n : Int) (hs : s.length ≤ 1000000000) (k : ∀ w', Below w.heap.size w w' → K (.int .i64 (numberM s n)) w') : callM Tryz.prog 94 #[.string ⟨s.toArray⟩, .int .i64 n] K w := by
  apply sh_94_ok
  unfold sh_94
  unfold numberM at k
  refine valid_ok n ?_
  by_cases hn : okN n
  · rw [if_pos hn] at k
    repeat (any_goals (first
    | (with_reducible ((refine idCond ?_); refine yR ?_))
    | ((with_reducible refine idO ?_); (with_reducible refine oM_gen fun Kv hK=>?_); simp [go_sem]; refine hK _ _ ?_; clear hK; clear Kv)))
    refine Sha_ok s hs (fun w1 h1 => ?_)
    have hl := ShaSpec.sha_length s
    generalize ShaSpec.sha s = d at *
    refine ofStr d fun v w2 h2 => ?_
    obtain ⟨g, c, rfl, hlt⟩ := h2.row.shape
    have hby := bufByR h2.row
    have hb := h1.on h2.below
    repeat (any_goals ((with_reducible refine idO ?_); (with_reducible refine oM_gen fun Kv hK=>?_); simp [go_sem]; refine hK _ _ ?_; clear hK; clear Kv))
    refine ⟨NuJ n (d.foldl (numStep n) 0) d w2, vsMu d.length, ⟨Below.refl _ _, _, _, 0, rfl, by omega, rfl⟩, ?_⟩
    rintro _ _ w3 ⟨h3, v, o, i, rfl, hi, hf⟩
    by_cases hin : i < d.length
    · have hc := (hby.next h3).2 i hin
      rw [Nat.zero_add] at hc
      have e1 : d[i]?.getD 0 = d[i] := by simp [hin]
      have hu := (d[i]).toNat_lt
      rw [List.getD_eq_getElem?_getD, e1] at hc
      repeat (any_goals (first
      | (with_reducible ((refine idCond ?_); refine yN ?_))
      | ((with_reducible refine idO ?_); (with_reducible refine oM_gen fun Kv hK=>?_); simp [go_sem, hc]; (first|refine hK _ _ ?_|refine And.intro (by omega) (hK _ _ ?_)); clear hK; clear Kv)))
      refine Mul_ok n o 256 (fun w4 h4 => ?_)
      repeat (any_goals ((with_reducible refine idO ?_); (with_reducible refine oM_gen fun Kv hK=>?_); simp [go_sem]; (try simp (disch := omega) only [wrapI64, wrapU8, wrapU32, wrapU64]); refine hK _ _ ?_; clear hK; clear Kv))
      refine Add_ok n _ _ ?_
      repeat (any_goals ((with_reducible refine idO ?_); (with_reducible refine oM_gen fun Kv hK=>?_); simp [go_sem]; (try simp (disch := omega) only [wrapI64, wrapU8, wrapU32, wrapU64]); refine hK _ _ ?_; clear hK; clear Kv))
      rw [List.drop_eq_getElem_cons hin, List.foldl_cons] at hf
      refine ⟨⟨h3.on h4, _, _, i + 1, rfl, by omega, hf⟩, ?_⟩
      simp only [vsMu_eq]; omega
    · rw [List.drop_of_length_le (by omega), List.foldl_nil] at hf
      repeat (any_goals (first
      | (with_reducible ((refine idCond ?_); refine yO ?_))
      | ((with_reducible refine idO ?_); (with_reducible refine oM_gen fun Kv hK=>?_); simp [go_sem]; refine hK _ _ ?_; clear hK; clear Kv)))
      rw [hf]
      exact k _ (hb.on h3)
  · rw [if_neg hn] at k
    repeat (any_goals (first
    | (with_reducible ((refine idCond ?_); refine yQ ?_))
    | ((with_reducible refine idO ?_); (with_reducible refine oM_gen fun Kv hK=>?_); simp [go_sem]; refine hK _ _ ?_; clear hK; clear Kv)))
    exact k _ (Below.refl _ _)
theorem innL_all {t : Tkt} (h : TktR t) : ∀ n ∈ innL t, I64 n := by
  intro n hn
  simp only [innL, List.mem_cons, List.not_mem_nil, or_false] at hn
  rcases hn with rfl | rfl | rfl | rfl | rfl
  · exact h.mark
  · exact h.first
  · exact h.z
  · exact h.a
  · exact h.b
theorem innL_len {t : Tkt} (h : TktR t) : (encNums (innL t)).length ≤ 200 := by
  have hi := fun n (hn : n ∈ innL t) => Cd.encInt_len n ((InR_iff n).2 (innL_all h n hn))
  have h6 := itoa_len 5 (by unfold InR; omega)
  simp only [encNums, encList, innL, List.map_cons, List.map_nil, List.length_cons, List.length_nil, List.flatten_cons, List.flatten_nil, List.length_append, List.append_nil] at *
  have a1 := hi t.mark (by simp)
  have a2 := hi t.first (by simp)
  have a3 := hi t.z (by simp)
  have a4 := hi t.a (by simp)
  have a5 := hi t.b (by simp)
  have h6' : (Lib.itoa ((0 + 1 + 1 + 1 + 1 + 1 : Nat) : Int)).length ≤ 20 := h6
  omega
theorem inner_ok (s : Stp) (t : Tkt) {v : Value} (ht : TktR t) (hs : SetR w s v) (hl : Cd.Laid w) (k : ∀ w', Below w.heap.size w w' → K (.int .i64 (innerQ s t)) w') : callM Tryz.prog 76 #[stpV s v, tktV t] K w := by
  apply sh_76_ok
  unfold sh_76
  obtain ⟨ad, c, rfl⟩ := hs.ints.isSlice
  refine box_kn (cs := stpC s (.slice ad s.bases.length c)) rfl (.start w) fun b W hk hb1 hb => ?_
  refine box_kn (cs := tktC t) rfl hk fun b2 W2 hk hb2 hbb => ?_
  refine ⟨Kn w _, hk.drew, ?_⟩
  have hk := hk.drew
  repeat (any_goals (first
  | (with_reducible refine And.intro hk ?_)
  | ((with_reducible refine mk5 t.mark t.first t.z t.a t.b ht.mark ht.first ht.z ht.a ht.b ?_); intro v8 W8 hb8 hi)
  | ((with_reducible refine idOH ?_); (with_reducible refine oH_of ⟨_, rfl⟩ (fun W0 hW0 => by (refine oM_gen (fun Kv hK => ?_)); simp [go_sem, hW0.cells]; (first | exact hK _ _ ⟨rfl, rfl⟩ | exact ⟨by omega, hK _ _ ⟨rfl, rfl⟩⟩)) ?_))))
  have hk := hk.next hb8
  refine ⟨hk, ?_⟩
  refine Cd.pNums_ok (innL t) v8 (hl.below hk.below hl.size) (Ints.rowOf hi) (fun x hx => (InR_iff x).2 (innL_all ht x hx)) (by have := innL_len ht; unfold encNums at this; omega) (fun w3 h3 => ?_)
  have hk := hk.next h3
  refine ⟨hk, ?_⟩
  refine Number_ok _ _ (by have := innL_len ht; unfold encNums at this; omega) (fun w4 h4 => ?_)
  have hk := hk.next h4
  exact ⟨hk, hk, k _ hk.below⟩
theorem genM_I64 (s : Stp) (x : Int) : I64 (genM s x) := powerG_I64 _ _ _
structure OffR (o : Off) : Prop where
  z : I64 o.z
  a : I64 o.a
  b : I64 o.b
@[reducible] def offC (o : Off) : List Value := [.int .i64 o.z, .int .i64 o.a, .int .i64 o.b]
theorem signed_ok (s : Stp) (key m c r : Int) (o : Off) {v : Value} (ho : OffR o) (hs : SetR w s v) (k : ∀ w', Below w.heap.size w w' → K (.bool (signedM s key m c r o)) w') :
    callM Tryz.prog 79 #[stpV s v, .int .i64 key, .int .i64 m, .int .i64 c, .int .i64 r, offV o] K w := by
  apply sh_79_ok
  unfold sh_79
  obtain ⟨ad, cc, rfl⟩ := hs.ints.isSlice
  refine box_kn (cs := stpC s (.slice ad s.bases.length cc)) rfl (.start w) fun b W hk hb1 hb => ?_
  refine box_kn (cs := offC o) rfl hk fun b2 W2 hk hb2 hbb => ?_
  have hk := hk.drew
  refine ⟨Nx { W2 with drawn := W2.drawn + 1 }, Below.refl _ _, rfl, ?_⟩
  generalize ({ W2 with drawn := W2.drawn + 1 } : World) = W at hk ⊢
  repeat (any_goals (first
  | (with_reducible refine pureH_in ?_)
  | ((with_reducible refine idOH ?_); (with_reducible refine oH_of ⟨_, rfl⟩ (fun W0 hW0 => by (refine oM_gen (fun Kv hK => ?_)); simp [go_sem, (hk.next hW0).cells]; (first | exact hK _ _ ⟨rfl, rfl⟩ | exact ⟨by omega, hK _ _ ⟨rfl, rfl⟩⟩)) ?_))))
  refine ⟨Nx, ?_⟩
  apply monoE
  · intro w1 h1
    exact generated_ok s r (hs.next (hk.next h1).below) (fun w2 h2 => ⟨h1.on h2, h2, rfl⟩)
  apply monoE
  · intro w1 h1
    exact tpower_ok s key c (hs.next (hk.next h1).below) (fun w2 h2 => ⟨h1.on h2, h2, rfl⟩)
  refine monoR (fun v w' => Ints w' v [o.a]) (fun v w w1 hS h => h.next hS) ?_ ?_
  · intro w1 h1
    exact mk1 o.a ho.a (fun v w2 h2 hi => ⟨h1.on h2, h2, hi⟩)
  apply monoE
  · rintro w1 h1 _ rfl v2 hi
    exact times_ok s _ (hs.next (hk.next h1).below) hi (fun w2 h2 => ⟨h1.on h2, h2, rfl⟩)
  apply monoE
  · rintro w1 h1 _ rfl _ rfl
    repeat (any_goals ((with_reducible refine idO ?_); (with_reducible refine oM_gen fun Kv hK=>?_); simp [go_sem]; refine hK _ _ ?_; clear hK; clear Kv))
    exact ⟨h1, Below.refl _ _, rfl⟩
  unfold signedM at k
  generalize decide (genM s r = timesM s (powerG s.g key c) [o.a]) = p at k ⊢
  cases p
  · repeat (apply monoE; focus (intro w9 h9; (repeat (intro v9 e9; try (obtain rfl := e9))); (repeat (any_goals (with_reducible ((refine idGd ?_); refine zB ?_)))); exact ⟨h9, Below.refl _ _, rfl⟩))
    (intro w9 h9; repeat (intro v9 e9; try (obtain rfl := e9)))
    repeat (any_goals (first
    | (with_reducible refine And.intro h9 ?_)
    | (with_reducible first|((refine idGd ?_); refine zB ?_)|((refine idPick ?_); refine yC ?_))))
    exact k _ (hk.next h9).below
  · repeat (apply monoE; focus (intro w9 h9; (repeat (intro v9 e9; try (obtain rfl := e9))); (repeat (any_goals (first
      | (with_reducible first|refine pureM_in ?_|((refine idGd ?_); refine zA ?_))
      | ((with_reducible refine idO ?_); (with_reducible refine oM_gen fun Kv hK=>?_); simp [go_sem, (hk.next h9).cells]; refine hK _ _ ?_; clear hK; clear Kv)))); exact ⟨h9, Below.refl _ _, rfl⟩))
    apply monoE
    · (intro w9 h9; repeat (intro v9 e9; try (obtain rfl := e9)))
      repeat (any_goals (with_reducible ((refine idGd ?_); refine zA ?_)))
      exact tpower_ok s m r (hs.next (hk.next h9).below) (fun w2 h2 => ⟨h9.on h2, h2, rfl⟩)
    repeat (apply monoE; focus (intro w9 h9; (repeat (intro v9 e9; try (obtain rfl := e9))); (repeat (any_goals (first
      | (with_reducible first|refine pureM_in ?_|((refine idGd ?_); refine zA ?_))
      | ((with_reducible refine idO ?_); (with_reducible refine oM_gen fun Kv hK=>?_); simp [go_sem, (hk.next h9).cells]; refine hK _ _ ?_; clear hK; clear Kv)))); exact ⟨h9, Below.refl _ _, rfl⟩))
    apply monoE
    · (intro w9 h9; repeat (intro v9 e9; try (obtain rfl := e9)))
      repeat (any_goals (with_reducible ((refine idGd ?_); refine zA ?_)))
      exact tpower_ok s o.z c (hs.next (hk.next h9).below) (fun w2 h2 => ⟨h9.on h2, h2, rfl⟩)
    repeat (apply monoE; focus (intro w9 h9; (repeat (intro v9 e9; try (obtain rfl := e9))); (repeat (any_goals (first
      | (with_reducible ((refine idGd ?_); refine zA ?_))
      | ((with_reducible refine idO ?_); (with_reducible refine oM_gen fun Kv hK=>?_); simp [go_sem, (hk.next h9).cells]; refine hK _ _ ?_; clear hK; clear Kv)))); exact ⟨h9, Below.refl _ _, rfl⟩))
    refine monoR (fun v w' => Ints w' v [o.b]) (fun v w w1 hS h => h.next hS) ?_ ?_
    · (intro w9 h9; repeat (intro v9 e9; try (obtain rfl := e9)))
      repeat (any_goals (first
      | ((with_reducible refine mk1 o.b ho.b ?_); intro v2 w2 h2 hi)
      | (with_reducible ((refine idGd ?_); refine zA ?_))))
      exact ⟨h9.on h2, h2, hi⟩
    (intro w9 h9; repeat (intro v9 e9; try (obtain rfl := e9)))
    repeat (any_goals (first
    | (with_reducible refine And.intro h9 ?_)
    | (with_reducible ((refine idGd ?_); refine zA ?_))))
    refine times_ok s _ (hs.next (hk.next h9).below) e9 (fun w2 h2 => ?_)
    have h9 := h9.on h2
    repeat (any_goals (first
    | (with_reducible refine And.intro h9 ?_)
    | (with_reducible first|((refine idGd ?_); refine zA ?_)|((refine idPick ?_); refine yB ?_))
    | ((with_reducible refine idO ?_); (with_reducible refine oM_gen fun Kv hK=>?_); simp [go_sem]; refine hK _ _ ?_; clear hK; clear Kv)))
    exact k _ (hk.next h9).below
end
end Go.Proofs
namespace Go.Proofs
open Go Go.Sh Go.RowKit FdSpec TkSpec CodeSpec
set_option linter.unusedSimpArgs false
set_option linter.unusedVariables false
set_option maxRecDepth 10000
section
variable {K : Value → World → Prop} {w w0 : World} {L : List (Addr × Value)}
@[reducible] def reqC (s : Stp) (v : Value) (m c : Int) (t : Tkt) : List Value := [.int .i64 s.g.P, .int .i64 s.g.Q, .int .i64 s.g.G, v, .int .i64 s.blind, .int .i64 m, .int .i64 c, .int .i64 t.mark, .int .i64 t.first, .int .i64 t.z, .int .i64 t.a, .int .i64 t.b, .int .i64 t.r]
@[reducible] def reqV (s : Stp) (v : Value) (m c : Int) (t : Tkt) : Value := .agg (reqC s v m c t).toArray
@[reducible] def zS : Stp := ⟨⟨0, 0, 0⟩, [], 0⟩
def askV (s : Stp) (v : Value) (key : Int) (attrs : List Int) (o : Off) (b : Bld) : Value :=
  if askErr s key attrs o b = 0 then reqV s v (usableM s attrs).1 (askC s attrs o b) (askTkt s attrs o b) else reqV zS (.slice none 0 0) 0 0 zT
theorem req_one (s : Stp) (ad : Option Addr) (n c' : Nat) (m c : Int) (t : Tkt) : ∀ u ∈ reqC s (.slice ad n c') m c t, u.oneCell' = true := by
  intro u hu
  simp only [reqC, List.mem_cons, List.not_mem_nil, or_false] at hu
  rcases hu with rfl | rfl | rfl | rfl | rfl | rfl | rfl | rfl | rfl | rfl | rfl | rfl | rfl <;> rfl
theorem sz_req (w : World) : (sizeOf 132).run Tryz.prog w = .ok 13 w := by kernel_rfl
theorem al_req (w : World) : (Instr.alloc 132 true (.tuple #[])).run Tryz.prog w = .ok (.pointer (some ⟨w.heap.size, 0, none⟩)) (w.alloc (.cells (reqC zS (.slice none 0 0) 0 0 zT).toArray 132)) := by kernel_rfl
theorem build_req0 (T : TypeId) : oM Tryz.prog (Go.Op.build 132 #[]) T [] = pureM (reqV zS (.slice none 0 0) 0 0 zT) := by
  funext K w
  kernel_rfl
theorem store_req {K : Value → World → Prop} {T' : TypeId} {g : Nat} (s : Stp) (ad : Option Addr) (n c' : Nat) (m c : Int) (t : Tkt) (hk : KnM w0 L g 13 w)
    (k : ∀ W, KnM w0 L g 13 W → cellsAre W (cellsOf [] g 0 (reqC s (.slice ad n c') m c t)) → K undef W) : oM Tryz.prog (.store 132 (.tmp 0) (.tmp 1)) T' [.pointer (some ⟨g, 0, none⟩), reqV s (.slice ad n c') m c t] K w :=
  store_mine sz_req rfl rfl (req_one s ad n c' m c t) hk k
theorem store_req2 {K : Value → World → Prop} {T' : TypeId} {g : Nat} (s : Stp) (ad : Option Addr) (n c' : Nat) (m c : Int) (t : Tkt) (hk : KnM w0 L g 13 w)
    (k : ∀ W, KnM w0 L g 13 W → cellsAre W (cellsOf [] g 0 (reqC s (.slice ad n c') m c t)) → w.grownBy W (some g) → K undef W) : oM Tryz.prog (.store 132 (.tmp 0) (.tmp 1)) T' [.pointer (some ⟨g, 0, none⟩), reqV s (.slice ad n c') m c t] K w := by
  obtain ⟨W, e, hg, hm, hc⟩ := store_run (P := Tryz.prog) (W := w) sz_req (x := reqV s (.slice ad n c') m c t) rfl rfl (req_one s ad n c' m c t) hk.mine
  rw [oM_store, e]
  exact k W ⟨hk.kn.wrote hg hk.base hk.off, hm, hk.base, hk.off⟩ hc hg
theorem build_t3 (T : TypeId) (a b c : Int) : oM Tryz.prog (Go.Op.build 41 #[(0, (.tmp 0)), (1, (.tmp 1)), (2, (.tmp 2))]) T [.int .i64 a, .int .i64 b, .int .i64 c] = pureM (tktV ⟨a, b, c, 0, 0, 0⟩) := by
  funext K w
  kernel_rfl
theorem build_req4 (T : TypeId) (s : Stp) (ad : Option Addr) (n c' : Nat) (m c : Int) (t : Tkt) : oM Tryz.prog (Go.Op.build 132 #[(0, (.tmp 0)), (1, (.tmp 1)), (2, (.tmp 2)), (3, (.tmp 3))]) T [stpV s (.slice ad n c'), .int .i64 m, .int .i64 c, tktV t] = pureM (reqV s (.slice ad n c') m c t) := by
  funext K w
  kernel_rfl
theorem sz_int (w : World) : (sizeOf 3).run Tryz.prog w = .ok 1 w := by kernel_rfl
theorem un_tkt : Tryz.prog.underlying 41 = some ((Tryz.prog.underlying 41).getD default) := by kernel_rfl
theorem prodL_I64 (g : Grp) : ∀ (l : List (Int × Int)) (o : Int), I64 o → I64 (prodL g o l)
  | [], o, h => h
  | (b, e) :: l, o, _ => prodL_I64 g l _ (mulM_I64 _ _ _)
theorem prodG_I64 (g : Grp) (bs es : List Int) : I64 (prodG g bs es).1 := by
  unfold prodG
  split
  · rename_i h
    refine prodL_I64 _ _ _ ?_
    have h1 := Int.emod_nonneg 1 (show g.P ≠ 0 by have := h.1.1; omega)
    have h2 := Int.emod_lt_of_pos 1 (show 0 < g.P by have := h.1.1; omega)
    have h3 := h.1.2
    exact ⟨by omega, by omega⟩
  · exact ⟨by decide, by decide⟩
theorem timesM_I64 (s : Stp) (x y : Int) : I64 (timesM s x [y]) := timesG_I64 _ _ _
theorem askTkt_R (s : Stp) (l : List Int) (o : Off) (b : Bld) : TktR (askTkt s l o b) :=
  ⟨powerG_I64 _ _ _, prodG_I64 _ _ _, powerG_I64 _ _ _, timesM_I64 _ _ _, timesM_I64 _ _ _, ⟨by show _ ≤ (0 : Int); decide, by show (0 : Int) < _; decide⟩⟩
structure TkC (W : World) (g : Nat) (f : Int → Tkt) (w' : World) : Prop where
  nx : Nx W w'
  ex : ∃ a, Holds w' g 41 (tktC (f a))
theorem TkC.next {W w' w2 : World} {g : Nat} {f : Int → Tkt} (h : TkC W g f w') (hb : Below w'.heap.size w' w2) : TkC W g f w2 := ⟨h.1.on hb, h.2.imp fun _ h => h.next hb⟩
theorem TkC.mark {W w' : World} {g : Nat} {f : Int → Tkt} {m : Int} (h : TkC W g f w') (hm : ∀ a, (f a).mark = m := by intro _; rfl) : w'.cell? ⟨g, 0, none⟩ = some (.int .i64 m) := by
  obtain ⟨_, a, h⟩ := h
  rw [h.cell 0 (show 0 < 6 by decide)]
  show some (Value.int .i64 (f a).mark) = _
  rw [hm a]
theorem ask_ok (s : Stp) (key : Int) (o : Off) (b : Bld) {v lv bv : Value} {l : List Int} (hkey : I64 key) (ho : OffR o) (hs : SetR w s v) (hl : Ints w lv l) (hb : BldR w b bv) (hL : Cd.Laid w)
    (k : ∀ w', Below w.heap.size w w' → K (.tuple #[askV s v key l o b, .int .i64 (askErr s key l o b)]) w') :
    callM Tryz.prog 78 #[stpV s v, .int .i64 key, lv, offV o, bldV b bv] K w := by
  apply sh_78_ok
  unfold sh_78
  obtain ⟨ad, cc, rfl⟩ := hs.ints.isSlice
  obtain ⟨yad, yc, rfl⟩ := hb.ys.isSlice
  refine box_kn (cs := stpC s (.slice ad s.bases.length cc)) rfl (.start w) fun b1 W hk hb1 hbb => ?_
  refine box_kn (cs := offC o) rfl hk fun b2 W2 hk hb2 hbb => ?_
  refine box_kn (cs := bldC b (.slice yad b.ys.length yc)) rfl hk fun b3 W3 hk hb3 hbb => ?_
  refine alloc_mine (n := 13) al_req rfl hk fun g W hk hb4 hg => ?_
  have k1 : askErr s key l o b ≠ 0 → ∀ w', Below w.heap.size w w' → K (.tuple #[reqV zS (.slice none 0 0) 0 0 zT, .int .i64 (askErr s key l o b)]) w' := fun he w' hb => by
    have := k w' hb; unfold askV at this; rw [if_neg he] at this; exact this
  have k2 : askErr s key l o b = 0 → ∀ w', Below w.heap.size w w' → K (.tuple #[reqV s (.slice ad s.bases.length cc) (usableM s l).1 (askC s l o b) (askTkt s l o b), .int .i64 0]) w' := fun he w' hb => by
    have := k w' hb; unfold askV at this; rw [if_pos he, he] at this; exact this
  clear k hb1 hb2 hb3 hb4
  have bad : askFine s key l o b = false → ∀ w', Below w.heap.size w w' → K (.tuple #[reqV zS (.slice none 0 0) 0 0 zT, .int .i64 1]) w' := fun h w' hb => by
    have e : askErr s key l o b = 1 := by unfold askErr; rw [h]; rfl
    have := k1 (by rw [e]; decide) w' hb; rw [e] at this; exact this
  repeat (any_goals ((with_reducible refine idO ?_); (with_reducible refine oM_gen fun Kv hK=>?_); simp [go_sem, hk.cells]; refine hK _ _ ?_; clear hK; clear Kv))
  refine usable_ok s (hs.next hk.below) (hl.next hk.below) (fun w2 h2 => ?_)
  have hk := hk.next h2
  clear h2
  cases hu : (usableM s l).2 with
  | false =>
    repeat (any_goals (first
    | ((with_reducible refine local_desk s ad s.bases.length cc hk ?_); intro b7 W7 hk hb7 hg7)
    | (with_reducible first|((refine idGd ?_); refine zD ?_)|((refine idPick ?_); refine yB ?_)|((refine idCond ?_); refine yL ?_))
    | ((with_reducible refine idO ?_); (with_reducible refine oM_gen fun Kv hK=>?_); simp [go_sem, hk.cells, build_req0]; refine hK _ _ ?_; clear hK; clear Kv)))
    exact store_req zS none 0 0 0 0 zT hk (fun W3 hk hc => ⟨_, by simp [go_sem, hc], bad (by unfold askFine; rw [hu]; simp) _ hk.below⟩)
  | true =>
  repeat (any_goals (first
  | ((with_reducible refine local_desk s ad s.bases.length cc hk ?_); intro b7 W7 hk hb7 hg7)
  | (with_reducible first|refine pureM_in ?_|((refine idGd ?_); refine zC ?_))
  | ((with_reducible refine idO ?_); (with_reducible refine oM_gen fun Kv hK=>?_); simp [go_sem, hk.cells]; refine hK _ _ ?_; clear hK; clear Kv)))
  refine key_ok s key hkey (hs.next hk.below) (fun w3 h3 => ?_)
  have hk := hk.next h3
  clear h3
  cases hke : keyM s key with
  | false =>
    repeat (any_goals (first
    | (with_reducible first|((refine idGd ?_); first|refine zC ?_|refine zD ?_)|((refine idPick ?_); first|refine yB ?_|refine yC ?_)|((refine idCond ?_); refine yL ?_))
    | ((with_reducible refine idO ?_); (with_reducible refine oM_gen fun Kv hK=>?_); simp [go_sem, hk.cells, build_req0]; refine hK _ _ ?_; clear hK; clear Kv)))
    exact store_req zS none 0 0 0 0 zT hk (fun W3 hk hc => ⟨_, by simp [go_sem, hc], bad (by unfold askFine; rw [hu, hke]; simp) _ hk.below⟩)
  | true =>
  repeat (any_goals (first
  | ((with_reducible refine mk3 o.z o.a o.b ho.z ho.a ho.b ?_); intro v8 c8 W8 hb8 hi8)
  | (with_reducible first|((refine idGd ?_); refine zC ?_)|((refine idPick ?_); refine yC ?_))
  | ((with_reducible refine idO ?_); (with_reducible refine oM_gen fun Kv hK=>?_); simp [go_sem, hk.cells]; refine hK _ _ ?_; clear hK; clear Kv)))
  have hk := hk.next hb8
  refine elements_ok s (hs.next hk.below) hi8 (fun w4 h4 => ?_)
  have hk := hk.next h4
  clear h4 hb8 hi8
  cases hel : elementsM s [o.z, o.a, o.b] with
  | false =>
    repeat (any_goals (first
    | (with_reducible first|((refine idGd ?_); first|refine zC ?_|refine zD ?_)|((refine idPick ?_); first|refine yB ?_|refine yC ?_)|((refine idCond ?_); refine yL ?_))
    | ((with_reducible refine idO ?_); (with_reducible refine oM_gen fun Kv hK=>?_); simp [go_sem, hk.cells, build_req0]; refine hK _ _ ?_; clear hK; clear Kv)))
    exact store_req zS none 0 0 0 0 zT hk (fun W3 hk hc => ⟨_, by simp [go_sem, hc], bad (by unfold askFine; rw [hu, hke, hel]; simp) _ hk.below⟩)
  | true =>
  by_cases hz1 : o.z = 1
  · repeat (any_goals (first
    | (with_reducible first|((refine idGd ?_); first|refine zC ?_|refine zD ?_)|((refine idPick ?_); first|refine yB ?_|refine yC ?_)|((refine idCond ?_); refine yL ?_))
    | ((with_reducible refine idO ?_); (with_reducible refine oM_gen fun Kv hK=>?_); simp [go_sem, hk.cells, build_req0, hz1]; refine hK _ _ ?_; clear hK; clear Kv)))
    exact store_req zS none 0 0 0 0 zT hk (fun W3 hk hc => ⟨_, by simp [go_sem, hc], bad (by unfold askFine; rw [hu, hke, hel, hz1]; simp) _ hk.below⟩)
  repeat (any_goals (first
  | (with_reducible first|((refine idGd ?_); refine zC ?_)|((refine idPick ?_); refine yC ?_))
  | ((with_reducible refine idO ?_); (with_reducible refine oM_gen fun Kv hK=>?_); simp [go_sem, hk.cells, hz1]; refine hK _ _ ?_; clear hK; clear Kv)))
  refine blinds_ok s b (hs.next hk.below) (hb.next hk.below) (fun w5 h5 => ?_)
  have hk := hk.next h5
  clear h5
  cases hbl : blindsM s b with
  | false =>
    repeat (any_goals (first
    | (with_reducible first|((refine idGd ?_); refine zC ?_)|((refine idPick ?_); refine yC ?_)|((refine idCond ?_); refine yL ?_))
    | ((with_reducible refine idO ?_); (with_reducible refine oM_gen fun Kv hK=>?_); simp [go_sem, hk.cells, build_req0]; refine hK _ _ ?_; clear hK; clear Kv)))
    exact store_req zS none 0 0 0 0 zT hk (fun W3 hk hc => ⟨_, by simp [go_sem, hc], bad (by unfold askFine; rw [hu, hke, hel, hbl]; simp) _ hk.below⟩)
  | true =>
  have fine : askFine s key l o b = true := by unfold askFine; rw [hu, hke, hel, hbl, decide_eq_false hz1]; rfl
  clear bad
  repeat (any_goals (first
  | (with_reducible first|((refine idGd ?_); refine zC ?_)|((refine idPick ?_); refine yC ?_)|((refine idCond ?_); refine yM ?_))
  | ((with_reducible refine idO ?_); (with_reducible refine oM_gen fun Kv hK=>?_); simp [go_sem]; refine hK _ _ ?_; clear hK; clear Kv)))
  have hk := hk.drew
  refine ⟨Nx { w5 with drawn := w5.drawn + 1 }, Below.refl _ _, rfl, ?_⟩
  generalize ({ w5 with drawn := w5.drawn + 1 } : World) = W at hk ⊢
  repeat (any_goals (first
  | (with_reducible refine pureH_in ?_)
  | ((with_reducible refine idOH ?_); (with_reducible refine oH_of ⟨_, rfl⟩ (fun W0 hW0 => by (refine oM_gen (fun Kv hK => ?_)); simp [go_sem, (hk.next hW0).cells]; (first | exact hK _ _ ⟨rfl, rfl⟩ | exact ⟨by omega, hK _ _ ⟨rfl, rfl⟩⟩)) ?_))))
  refine ⟨Nx, ?_⟩
  apply monoE
  · intro w1 h1
    exact tpower_ok s _ b.s (hs.next (hk.next h1).below) (fun w2 h2 => ⟨h1.on h2, h2, rfl⟩)
  apply monoE
  · intro w1 h1
    exact product_t_ok s (hs.next (hk.next h1).below) (hb.ys.next (hk.next h1).below) (fun w2 h2 => ⟨h1.on h2, h2, rfl⟩)
  apply monoE
  · intro w1 h1
    exact tpower_ok s o.z b.s (hs.next (hk.next h1).below) (fun w2 h2 => ⟨h1.on h2, h2, rfl⟩)
  repeat (apply monoE; focus (intro w9 h9; (repeat (intro v9 e9; try (obtain rfl := e9))); (repeat (any_goals ((with_reducible refine idO ?_); (with_reducible refine oM_gen fun Kv hK=>?_); simp [go_sem, build_t3]; refine hK _ _ ?_; clear hK; clear Kv))); exact ⟨h9, Below.refl _ _, rfl⟩))
  refine monoR (fun v w' => ∃ g2, v = ptr g2 0 ∧ W.heap.size ≤ g2 ∧ Holds w' g2 41 (tktC zT)) (fun v w w1 hS h => h.imp fun g2 h => ⟨h.1, h.2.1, h.2.2.next hS⟩) ?_ ?_
  · intro w1 h1
    exact arr_alloc al_tkt (fun g2 w2 h2 hg2 hh => ⟨h1.on h2, h2, g2, rfl, Nat.le_trans h1.size hg2, hh⟩)
  (intro w9 h9; repeat (intro v9 e9; try (obtain rfl := e9)))
  obtain ⟨g2, rfl, hg2, hh⟩ := e9
  have mI := powerG_I64 s.g (usableM s l).1 b.s
  have hW := hk.next (Below.refl W.heap.size W)
  refine arr_store sz_tkt (xs := tktC ⟨powerG s.g (usableM s l).1 b.s, (prodG s.g s.bases b.ys).1, powerG s.g o.z b.s, 0, 0, 0⟩) rfl rfl (tkt_one _) hh rfl (fun w10 hg10 hh => ?_)
  have h10 := grown_below h9 hg10 hg2
  clear hg10 h9
  refine ⟨h10, ?_⟩
  refine ⟨TkC W g2 (fun a => ⟨powerG s.g (usableM s l).1 b.s, (prodG s.g s.bases b.ys).1, powerG s.g o.z b.s, a, 0, 0⟩), ⟨h10.on .drawn, 0, hh.next .drawn⟩, rfl, ?_⟩
  clear hh h10
  repeat (any_goals ((with_reducible refine idOH ?_); (with_reducible refine oH_of ⟨_, rfl⟩ (fun W0 hW0 => by (refine oM_gen (fun Kv hK => ?_)); simp [go_sem, (hk.next hW0.1).cells]; (first | exact hK _ _ ⟨rfl, rfl⟩ | exact ⟨by omega, hK _ _ ⟨rfl, rfl⟩⟩)) ?_)))
  refine ⟨Nx, ?_⟩
  intro w1 h1
  refine tpower_ok s o.a b.u (hs.next (hk.next h1.1).below) (fun w2 h2 => ?_)
  have h1 := h1.next h2
  refine ⟨h1, generated_ok s b.v (hs.next (hk.next h1.1).below) (fun w3 h3 => ?_)⟩
  have h1 := h1.next h3
  refine ⟨h1, mk1 _ (genM_I64 s b.v) (fun v4 w4 h4 hi => ?_)⟩
  have h1 := h1.next h4
  refine ⟨h1, times_ok s _ (hs.next (hk.next h1.1).below) hi (fun w5 h5 => ?_)⟩
  have h1 := h1.next h5
  refine ⟨h1, ?_⟩
  repeat (any_goals ((with_reducible refine idO ?_); (with_reducible refine oM_gen fun Kv hK=>?_); simp [go_sem]; refine hK _ _ ?_; clear hK; clear Kv))
  refine ⟨h1, ?_⟩
  obtain ⟨h1, a0, hh⟩ := h1
  refine arr_set (i := 3) sz_int rfl rfl hh (show 3 < 6 by decide) (fun w10 hg10 hh => ?_)
  have hh : Holds w10 g2 41 (tktC ⟨powerG s.g (usableM s l).1 b.s, (prodG s.g s.bases b.ys).1, powerG s.g o.z b.s, timesM s (powerG s.g o.a b.u) [genM s b.v], 0, 0⟩) := hh
  have h10 := grown_below h1 hg10 hg2
  clear hg10 h1 h2 h3 h4 h5 hi
  refine ⟨⟨h10, _, hh⟩, ?_⟩
  refine ⟨TkC W g2 (fun a => ⟨powerG s.g (usableM s l).1 b.s, (prodG s.g s.bases b.ys).1, powerG s.g o.z b.s, timesM s (powerG s.g o.a b.u) [genM s b.v], a, 0⟩), ⟨h10.on .drawn, 0, hh.next .drawn⟩, rfl, ?_⟩
  clear hh h10
  repeat (any_goals ((with_reducible refine idOH ?_); (with_reducible refine oH_of ⟨_, rfl⟩ (fun W0 hW0 => by (refine oM_gen (fun Kv hK => ?_)); simp [go_sem, (hk.next hW0.1).cells, hW0.mark]; (first | exact hK _ _ ⟨rfl, rfl⟩ | exact ⟨by omega, hK _ _ ⟨rfl, rfl⟩⟩)) ?_)))
  refine ⟨Nx, ?_⟩
  intro w1 h1
  refine mk1 b.u hb.u (fun v4 w4 h4 hi => ?_)
  have h1 := h1.next h4
  refine ⟨h1, mul_ok s b.s (hs.next (hk.next h1.1).below) hi (fun w2 h2 => ?_)⟩
  have h1 := h1.next h2
  refine ⟨h1, tpower_ok s o.b _ (hs.next (hk.next h1.1).below) (fun w3 h3 => ?_)⟩
  have h1 := h1.next h3
  refine ⟨h1, tpower_ok s _ b.v (hs.next (hk.next h1.1).below) (fun w5 h5 => ?_)⟩
  have h1 := h1.next h5
  refine ⟨h1, mk1 _ (powerG_I64 _ _ _) (fun v6 w6 h6 hi6 => ?_)⟩
  have h1 := h1.next h6
  refine ⟨h1, times_ok s _ (hs.next (hk.next h1.1).below) hi6 (fun w7 h7 => ?_)⟩
  have h1 := h1.next h7
  refine ⟨h1, ?_⟩
  repeat (any_goals ((with_reducible refine idO ?_); (with_reducible refine oM_gen fun Kv hK=>?_); simp [go_sem]; refine hK _ _ ?_; clear hK; clear Kv))
  refine ⟨h1, ?_⟩
  obtain ⟨h1, a0, hh⟩ := h1
  refine arr_set (i := 4) sz_int rfl rfl hh (show 4 < 6 by decide) (fun w10 hg10 hh => ?_)
  have hh : Holds w10 g2 41 (tktC (askTkt s l o b)) := hh
  have h10 := grown_below h1 hg10 hg2
  clear hg10 h1 h2 h3 h4 h5 hi h6 h7 hi6
  refine ⟨⟨h10, _, hh⟩, ?_⟩
  have hT := askTkt_R s l o b
  generalize ht : askTkt s l o b = t at *
  have hg2g : g2 ≠ g := by have := mine_lt hk.mine; omega
  have hk := hk.next h10
  have c0 := hh.cell 0 (show 0 < 6 by decide)
  repeat (any_goals (first
  | ((with_reducible refine arr_load hh un_tkt rfl (by kernel_rfl) ?_))
  | ((with_reducible refine idO ?_); (with_reducible refine oM_gen fun Kv hK=>?_); simp [go_sem, hk.cells]; refine hK _ _ ?_; clear hK; clear Kv)))
  refine inner_ok s t hT (hs.next hk.below) (hL.below hk.below hL.size) (fun w11 h11 => ?_)
  have hk := hk.next h11
  have hh := hh.next h11
  by_cases hc0 : innerQ s t = 0
  · have e7 : askErr s key l o b = 7 := by unfold askErr; rw [fine, ht, hc0]; rfl
    have k1 := k1 (by rw [e7]; decide)
    rw [e7] at k1
    repeat (any_goals (first
    | (with_reducible ((refine idCond ?_); refine yL ?_))
    | ((with_reducible refine idO ?_); (with_reducible refine oM_gen fun Kv hK=>?_); simp [go_sem, hk.cells, build_req0, hc0]; refine hK _ _ ?_; clear hK; clear Kv)))
    exact store_req zS none 0 0 0 0 zT hk (fun W3 hk hc => ⟨_, by simp [go_sem, hc], k1 _ hk.below⟩)
  · have e0 : askErr s key l o b = 0 := by unfold askErr; rw [fine, ht, if_neg hc0]; rfl
    have k2 := k2 e0
    have ec : askC s l o b = overQ s (innerQ s t) b.u := by unfold askC; rw [ht]
    rw [ec] at k2
    repeat (any_goals (first
    | (with_reducible ((refine idCond ?_); refine yM ?_))
    | ((with_reducible refine idO ?_); (with_reducible refine oM_gen fun Kv hK=>?_); simp [go_sem, hk.cells, hc0]; refine hK _ _ ?_; clear hK; clear Kv)))
    refine ⟨fun w' => KnM w _ g 13 w' ∧ Holds w' g2 41 (tktC t), ⟨hk.drew, hh.next .drawn⟩, rfl, ?_⟩
    clear hk hh
    repeat (any_goals (first
    | (with_reducible refine pureH_in ?_)
    | ((with_reducible refine idOH ?_); (with_reducible refine oH_of ⟨_, rfl⟩ (fun W0 hW0 => by (refine oM_gen (fun Kv hK => ?_)); simp [go_sem, hW0.1.cells, hW0.2.are]; (first | exact hK _ _ ⟨rfl, rfl⟩ | exact ⟨by omega, hK _ _ ⟨rfl, rfl⟩⟩)) ?_))))
    refine ⟨Nx, ?_⟩
    rintro w1 ⟨hk, hh⟩
    refine over_ok s _ b.u (hs.next hk.below) (fun w2 h2 => ?_)
    have hk := hk.next h2
    have hh := hh.next h2
    refine ⟨⟨hk, hh⟩, ?_⟩
    repeat (any_goals ((with_reducible refine idO ?_); (with_reducible refine oM_gen fun Kv hK=>?_); simp [go_sem, build_req4]; refine hK _ _ ?_; clear hK; clear Kv))
    refine ⟨⟨hk, hh⟩, ?_⟩
    refine store_req2 s ad _ cc _ _ t hk (fun W3 hk hc hg3 => ?_)
    have hh := hh.other hg3 hg2g
    exact ⟨⟨hk, hh⟩, ⟨hk, hh⟩, _, by simp [go_sem, hc], k2 _ hk.below⟩
end
end Go.Proofs
namespace Go.Proofs
open Go Go.Sh Go.RowKit FdSpec TkSpec CodeSpec
set_option linter.unusedSimpArgs false
set_option linter.unusedVariables false
set_option maxRecDepth 10000
section
variable {K : Value → World → Prop} {w w0 : World} {L : List (Addr × Value)}
theorem local_req {K : Value → World → Prop} {T' T2 : TypeId} (s : Stp) (ad : Option Addr) (n c' : Nat) (m c : Int) (t : Tkt) (hk : Kn w0 L w)
    (k : ∀ b W, Kn w0 (cellsOf L b 0 (reqC s (.slice ad n c') m c t)) W → Below w.heap.size w W → w.heap.size ≤ b → K (.pointer (some ⟨b, 0, none⟩)) W) :
    oM Tryz.prog (.alloc 132) T' [] (fun v w => oM Tryz.prog (.store 132 (.tmp 0) (.tmp 1)) T2 [v, reqV s (.slice ad n c') m c t] (fun _ w => K v w) w) w :=
  local_kn al_req rfl sz_req rfl rfl (req_one s ad n c' m c t) hk k
theorem _root_.Go.Sh.KnM.wroteOther {g n g' : Nat} {w' : World} (hk : KnM w0 L g n w) (hg : w.grownBy w' (some g')) (hoff : ∀ p ∈ L, p.1.block ≠ g') (hne : g ≠ g') (hb : w0.heap.size ≤ g') : KnM w0 L g n w' :=
  hk.fr (g' := g') ⟨hg.os, hg.tape, hg.output, hg.size, fun i hi hn => hg.block i hi (fun e => hn (by cases e; rfl))⟩ hoff hne hb
theorem local_reqH {K : Value → World → Prop} {T' T2 : TypeId} (s : Stp) (ad : Option Addr) (n c' : Nat) (m c : Int) (t : Tkt)
    (k : ∀ b W, Holds W b 132 (reqC s (.slice ad n c') m c t) → Below w.heap.size w W → w.heap.size ≤ b → K (.pointer (some ⟨b, 0, none⟩)) W) :
    oM Tryz.prog (.alloc 132) T' [] (fun v w => oM Tryz.prog (.store 132 (.tmp 0) (.tmp 1)) T2 [v, reqV s (.slice ad n c') m c t] (fun _ w => K v w) w) w :=
  arr_alloc al_req fun gq w3 h3 hgq hh => arr_store sz_req (xs := reqC s (.slice ad n c') m c t) rfl rfl (req_one _ _ _ _ _ _ _) hh rfl fun w4 hg4 hh => k gq w4 hh (grown_below h3 hg4 hgq) hgq
theorem Ask_ok (s : Stp) (key : Int) (o : Off) (b : Bld) {v lv bv : Value} {l : List Int} (hkey : I64 key) (ho : OffR o) (hs : SetR w s v) (hl : Ints w lv l) (hb : BldR w b bv) (hL : Cd.Laid w)
    (k : ∀ w', Below w.heap.size w w' → K (.tuple #[.int .i64 (askM s key l o b).1, .int .i64 (askM s key l o b).2]) w') :
    callM Tryz.prog 17 #[stpV s v, .int .i64 key, lv, offV o, bldV b bv] K w := by
  apply sh_17_ok
  unfold sh_17
  obtain ⟨ad, cc, rfl⟩ := hs.ints.isSlice
  obtain ⟨yad, yc, rfl⟩ := hb.ys.isSlice
  refine box_kn (cs := stpC s (.slice ad s.bases.length cc)) rfl (.start w) fun b1 W hk hb1 hbb => ?_
  refine box_kn (cs := offC o) rfl hk fun b2 W2 hk hb2 hbb => ?_
  refine box_kn (cs := bldC b (.slice yad b.ys.length yc)) rfl hk fun b3 W3 hk hb3 hbb => ?_
  unfold askM at k
  repeat (any_goals ((with_reducible refine idO ?_); (with_reducible refine oM_gen fun Kv hK=>?_); simp [go_sem, hk.cells]; refine hK _ _ ?_; clear hK; clear Kv))
  refine ask_ok s key o b hkey ho (hs.next hk.below) (hl.next hk.below) (hb.next hk.below) (hL.below hk.below hL.size) (fun w2 h2 => ?_)
  have hk := hk.next h2
  unfold askV
  by_cases he : askErr s key l o b = 0
  · rw [if_pos he] at k ⊢
    rw [he] at k ⊢
    repeat (any_goals (first
    | ((with_reducible refine local_req s ad _ cc _ _ _ hk ?_); intro b7 W7 hk hb7 hg7)
    | ((with_reducible refine idO ?_); (with_reducible refine oM_gen fun Kv hK=>?_); simp [go_sem, hk.cells]; refine hK _ _ ?_; clear hK; clear Kv)))
    exact k _ hk.below
  · rw [if_neg he] at k ⊢
    repeat (any_goals (first
    | ((with_reducible refine local_req zS none 0 0 0 0 zT hk ?_); intro b7 W7 hk hb7 hg7)
    | ((with_reducible refine idO ?_); (with_reducible refine oM_gen fun Kv hK=>?_); simp [go_sem, hk.cells]; refine hK _ _ ?_; clear hK; clear Kv)))
    exact k _ hk.below
structure RqC (w0 : World) (L : List (Addr × Value)) (g gq : Nat) (s : Stp) (v : Value) (m c : Int) (t : Tkt) (w' : World) : Prop where
  kn : KnM w0 L g 6 w'
  ex : ∃ r, Holds w' gq 132 (reqC s v m c { t with r := r })
theorem RqC.next {w' w2 : World} {g gq : Nat} {s : Stp} {v : Value} {m c : Int} {t : Tkt} (h : RqC w0 L g gq s v m c t w') (hb : Below w'.heap.size w' w2) : RqC w0 L g gq s v m c t w2 := ⟨h.kn.next hb, h.ex.imp fun _ h => h.next hb⟩
theorem RqC.cells {w' : World} {g gq : Nat} {s : Stp} {v : Value} {m c : Int} {t : Tkt} (h : RqC w0 L g gq s v m c t w') : cellsAre w' (cellsOf [] gq 0 (stpC s v)) := by
  obtain ⟨_, r, hh⟩ := h
  have := hh.are
  exact ⟨this.1, this.2.1, this.2.2.1, this.2.2.2.1, this.2.2.2.2.1, trivial⟩
theorem build_tkt0 (T : TypeId) : oM Tryz.prog (Go.Op.build 41 #[]) T [] = pureM (tktV zT) := by
  funext K w
  kernel_rfl
theorem Finish_ok (s : Stp) (key r : Int) (o : Off) (b : Bld) {v lv bv : Value} {l : List Int} (hkey : I64 key) (hr : I64 r) (ho : OffR o) (hs : SetR w s v) (hl : Ints w lv l) (hb : BldR w b bv) (hL : Cd.Laid w)
    (k : ∀ w', Below w.heap.size w w' → K (.tuple #[tktV (finishM s key l o b r).1, .int .i64 (finishM s key l o b r).2]) w') :
    callM Tryz.prog 18 #[stpV s v, .int .i64 key, lv, offV o, bldV b bv, .int .i64 r] K w := by
  apply sh_18_ok
  unfold sh_18
  obtain ⟨ad, cc, rfl⟩ := hs.ints.isSlice
  obtain ⟨yad, yc, rfl⟩ := hb.ys.isSlice
  have k2 : ∀ w' x, finishM s key l o b r = x → Below w.heap.size w w' → K (.tuple #[tktV x.1, .int .i64 x.2]) w' := fun w' x e hb => by rw [← e]; exact k w' hb
  clear k
  refine box_kn (cs := stpC s (.slice ad s.bases.length cc)) rfl (.start w) fun b1 W hk hb1 hbb => ?_
  refine box_kn (cs := offC o) rfl hk fun b2 W2 hk hb2 hbb => ?_
  refine box_kn (cs := bldC b (.slice yad b.ys.length yc)) rfl hk fun b3 W3 hk hb3 hbb => ?_
  refine alloc_mine (n := 6) al_tkt rfl hk fun g W hk hb4 hg => ?_
  clear hb1 hb2 hb3 hb4
  unfold finishM at k2
  repeat (any_goals ((with_reducible refine idO ?_); (with_reducible refine oM_gen fun Kv hK=>?_); simp [go_sem, hk.cells]; refine hK _ _ ?_; clear hK; clear Kv))
  refine ask_ok s key o b hkey ho (hs.next hk.below) (hl.next hk.below) (hb.next hk.below) (hL.below hk.below hL.size) (fun w2 h2 => ?_)
  have hk := hk.next h2
  clear h2
  have hglt := mine_lt hk.mine
  have hcl := cells_lt hk.cells
  have hk0 := hk.below
  unfold askV
  by_cases he : askErr s key l o b = 0
  · rw [if_pos he] at ⊢
    rw [he] at k2 ⊢
    have hR := askTkt_R s l o b
    generalize askTkt s l o b = t at *
    generalize askC s l o b = c at *
    generalize (usableM s l).1 = m at *
    repeat (any_goals (first
    | ((with_reducible refine local_reqH s ad _ cc _ _ _ ?_); intro gq W7 hh hb7 hg7)
    | (with_reducible ((refine idCond ?_); refine yM ?_))
    | ((with_reducible refine idO ?_); (with_reducible refine oM_gen fun Kv hK=>?_); simp [go_sem]; refine hK _ _ ?_; clear hK; clear Kv)))
    have hk := hk.next hb7
    have hgq : gq ≠ g := by omega
    have hoq := fun p hp => Nat.ne_of_lt (Nat.lt_of_lt_of_le (hcl p hp) hg7)
    have hbq : w.heap.size ≤ gq := by have := hk0.size; omega
    clear hb7
    rw [if_neg (by decide)] at k2
    repeat (any_goals (first
    | ((with_reducible refine mk1 r hr ?_); intro v8 W8 hb8 hi)
    | ((with_reducible refine idO ?_); (with_reducible refine oM_gen fun Kv hK=>?_); simp [go_sem, hh.are, hk.cells]; refine hK _ _ ?_; clear hK; clear Kv)))
    have hk := hk.next hb8
    have hh := hh.next hb8
    refine nums_ok s 0 (hs.next hk.below) hi (fun w3 h3 => ?_)
    have hk := hk.next h3
    have hh := hh.next h3
    clear hb8 h3 hi
    cases hn : numsM s 0 [r] with
    | false =>
      rw [hn] at k2
      have k2 := fun w' => k2 w' _ rfl
      repeat (any_goals (first
      | (with_reducible ((refine idCond ?_); refine yL ?_))
      | ((with_reducible refine idO ?_); (with_reducible refine oM_gen fun Kv hK=>?_); simp [go_sem, hk.cells, build_tkt0]; refine hK _ _ ?_; clear hK; clear Kv)))
      exact store_tkt zT hk (fun W3 hk hc => ⟨_, by simp [go_sem, hc], k2 _ hk.below⟩)
    | true =>
    rw [hn, if_neg (by decide)] at k2
    repeat (any_goals (first
    | (with_reducible ((refine idCond ?_); refine yM ?_))
    | ((with_reducible refine idO ?_); (with_reducible refine oM_gen fun Kv hK=>?_); simp [go_sem, hh.are, hk.cells]; refine hK _ _ ?_; clear hK; clear Kv)))
    refine signed_ok s key m c r o ho (hs.next hk.below) (fun w4 h4 => ?_)
    have hk := hk.next h4
    have hh := hh.next h4
    clear h4
    cases hsg : signedM s key m c r o with
    | false =>
      rw [hsg] at k2
      have k2 := fun w' => k2 w' _ rfl
      repeat (any_goals (first
      | (with_reducible ((refine idCond ?_); refine yL ?_))
      | ((with_reducible refine idO ?_); (with_reducible refine oM_gen fun Kv hK=>?_); simp [go_sem, hk.cells, build_tkt0]; refine hK _ _ ?_; clear hK; clear Kv)))
      exact store_tkt zT hk (fun W3 hk hc => ⟨_, by simp [go_sem, hc], k2 _ hk.below⟩)
    | true =>
    rw [hsg, if_neg (by decide)] at k2
    have k2 := fun w' => k2 w' _ rfl
    repeat (any_goals (first
    | (with_reducible ((refine idCond ?_); refine yM ?_))
    | ((with_reducible refine idO ?_); (with_reducible refine oM_gen fun Kv hK=>?_); simp [go_sem]; refine hK _ _ ?_; clear hK; clear Kv)))
    refine ⟨RqC w _ g gq s _ m c t, ⟨hk.drew, t.r, hh.next .drawn⟩, rfl, ?_⟩
    clear hk hh
    repeat (any_goals (first
    | (with_reducible refine pureH_in ?_)
    | ((with_reducible refine idOH ?_); (with_reducible refine oH_of ⟨_, rfl⟩ (fun W0 hW0 => by (refine oM_gen (fun Kv hK => ?_)); simp [go_sem, hW0.cells, hW0.kn.cells]; (first | exact hK _ _ ⟨rfl, rfl⟩ | exact ⟨by omega, hK _ _ ⟨rfl, rfl⟩⟩)) ?_))))
    refine ⟨Nx, ?_⟩
    intro w1 h1
    refine mk1 b.u hb.u (fun v4 w4 h4 hi => ?_)
    have h1 := h1.next h4
    refine ⟨h1, mul_ok s r (hs.next h1.kn.below) hi (fun w5 h5 => ?_)⟩
    have h1 := h1.next h5
    refine ⟨h1, plus_ok s _ b.v (hs.next h1.kn.below) (fun w6 h6 => ?_)⟩
    have h1 := h1.next h6
    refine ⟨h1, ?_⟩
    repeat (any_goals ((with_reducible refine idO ?_); (with_reducible refine oM_gen fun Kv hK=>?_); simp [go_sem]; refine hK _ _ ?_; clear hK; clear Kv))
    refine ⟨h1, ?_⟩
    repeat (any_goals ((with_reducible refine idO ?_); (with_reducible refine oM_gen fun Kv hK=>?_); simp [go_sem]; refine hK _ _ ?_; clear hK; clear Kv))
    refine ⟨h1, ?_⟩
    obtain ⟨hk, r0, hh⟩ := h1
    refine arr_set (i := 12) sz_int rfl rfl hh (show 12 < 13 by decide) (fun w10 hg10 hh => ?_)
    have hk := hk.wroteOther hg10 hoq hgq.symm hbq
    have hh : Holds w10 gq 132 (reqC s (.slice ad s.bases.length cc) m c { t with r := plusQ s (mulQ s r [b.u]) b.v }) := hh
    refine ⟨⟨hk, _, hh⟩, ?_⟩
    repeat (any_goals ((with_reducible refine idO ?_); (with_reducible refine oM_gen fun Kv hK=>?_); simp [go_sem, hh.are]; refine hK _ _ ?_; clear hK; clear Kv))
    exact store_tkt { t with r := plusQ s (mulQ s r [b.u]) b.v } hk (fun W3 hk hc => ⟨_, by simp [go_sem, hc], k2 _ hk.below⟩)
  · rw [if_neg he] at ⊢
    rw [if_pos he] at k2
    have k2 := fun w' => k2 w' _ rfl
    repeat (any_goals (first
    | ((with_reducible refine local_reqH zS none 0 0 0 0 zT ?_); intro gq W7 hh hb7 hg7)
    | (with_reducible ((refine idCond ?_); refine yL ?_))
    | ((with_reducible refine idO ?_); (with_reducible refine oM_gen fun Kv hK=>?_); simp [go_sem, hk.cells, he, build_tkt0]; refine hK _ _ ?_; clear hK; clear Kv)))
    have hk := hk.next hb7
    exact store_tkt zT hk (fun W3 hk hc => ⟨_, by simp [go_sem, hc], k2 _ hk.below⟩)
end
end Go.Proofs
namespace TkSpec
open FdSpec CodeSpec
structure Mir where
  bases : List Int
  blind : Int
structure Ses where
  attrs : List Int
  offer : Off
  c : Int
  r : Int
structure Lnk where
  ticket : Tkt
  spend : Spd
  terms : List UInt8
def validM (s : Stp) (key : Int) (t : Tkt) : Bool :=
  formedM s t && keyM s key && !decide (innerQ s t = 0) && signedM s key t.mark (innerQ s t) t.r ⟨t.z, t.a, t.b⟩
def encT (t : Tkt) : List UInt8 := encNums [t.mark, t.first, t.z, t.a, t.b, t.r]
def lendM (s : Stp) (t : Tkt) (terms : List UInt8) : Int :=
  if validS s then s.g.Q / 2 + 1 + numberM (encT t ++ encText terms) (s.g.Q - 1 - s.g.Q / 2) else 0
def badN (g : Grp) (n : Int) : Bool := decide (n < 1) || decide (g.Q ≤ n)
def makeM (g : Grp) (m : Mir) : Stp × Bool :=
  if validG g && decide (2 ≤ m.bases.length) && decide (m.bases.length ≤ 7) && !m.bases.any (badN g) && !badN g m.blind then (⟨g, m.bases.map (powerG g g.G), powerG g g.G m.blind⟩, true)
  else (⟨⟨0, 0, 0⟩, [], 0⟩, false)
def logM (s : Stp) (m : Mir) (attrs : List Int) : Int := ((expsM attrs).zip m.bases).foldl (fun o p => plusQ s o (mulQ s p.1 [p.2])) 0
def zB : Bld := ⟨0, 0, 0, []⟩
def linkM (s : Stp) (keys : List Int) (x : Lnk) : Bool := keys.any (fun k => validM s k x.ticket) && decide (x.terms.length ≤ 8000) && acceptsM s x.ticket x.spend
def chainM (s : Stp) (keys : List Int) (dare : Int) : List Lnk → Bool
  | [] => false
  | [x] => linkM s keys x && decide (x.spend.dare = dare) && decide (x.terms = [])
  | x :: y :: l => linkM s keys x && decide (x.spend.dare = lendM s y.ticket x.terms) && chainM s keys dare (y :: l)
def followsM (s : Stp) (keys : List Int) (links : List Lnk) (dare : Int) : Bool :=
  validS s && decide (1 ≤ links.length) && decide (links.length ≤ 5) && chainM s keys dare links
end TkSpec
set_option linter.unusedVariables false
set_option maxRecDepth 100000
namespace Go.Proofs
open Go.Sh
def sh_95 (a0 : Value) (K : Value → World → Prop) (w : World) : Prop :=
 oM Tryz.prog (.call (Go.Call.mk (.builtin .len) #[(.tmp 0)] #[9])) 3 [a0] (fun v4_1 w =>
 callM Tryz.prog 145 #[v4_1] (fun v5_2 w =>
 oM Tryz.prog (.binOp .add 9 (.tmp 0) (.tmp 1) 9) 9 [v5_2, (.string ⟨#[58]⟩)] (fun v6_3 w =>
 oM Tryz.prog (.binOp .add 9 (.tmp 0) (.tmp 1) 9) 9 [v6_3, a0] (fun v8_4 w =>
 oM Tryz.prog (.binOp .add 9 (.tmp 0) (.tmp 1) 9) 9 [v8_4, (.string ⟨#[44]⟩)] (fun v9_5 w =>
 K v9_5 w) w) w) w) w) w
theorem sh_95_eq (a0 : Value) (K : Value → World → Prop) (w : World) : sh_95 a0 K w = code Tryz.prog (fun _ => 0) 10 (Tryz.f95.body.getD .skip) (slotsAt [a0]) (retK Tryz.prog [.tmp 2] K) w := by kernel_rfl
theorem sh_95_ok {a0 : Value} {K : Value → World → Prop} {w : World} (h : sh_95 a0 K w) : callM Tryz.prog 95 #[a0] K w :=
  calls_of_code (fun _ => 0) (fn := Tryz.f95) (rs := [.tmp 2]) Tryz.func95 rfl rfl (by kernel_rfl) (Nat.le_of_ble_eq_true rfl) ((sh_95_eq a0 K w).mp h)
def sh_63 (a0 : Value) (a1 : Value) (K : Value → World → Prop) (w : World) : Prop :=
 oM Tryz.prog (.box 30 (.tmp 0)) 0 [a0] (fun v2_1 w =>
 oM Tryz.prog (.box 24 (.tmp 0)) 0 [a1] (fun v3_2 w =>
 oM Tryz.prog (.alloc 32) 0 [] (fun v4_3 w =>
 oM Tryz.prog (.makeFunc (Go.Fn.func 132) #[] #[(.tmp 0)]) 138 [v2_1] (fun v10_4 w =>
 oM Tryz.prog (.load 30 (.tmp 0)) 30 [v2_1] (fun v11_5 w =>
 callM Tryz.prog 131 #[v11_5] (fun v12_6 w =>
 oM Tryz.prog (.unOp .not 4 (.tmp 0)) 4 [v12_6] (fun v13_7 w =>
 gdM (gd v13_7 false) (oM Tryz.prog (.fieldAddr 24 (.tmp 0) 0) 0 [v3_2]) (fun v15_8 w =>
 gdM (gd v13_7 false) (oM Tryz.prog (.load 22 (.tmp 0)) 22 [v15_8]) (fun v16_9 w =>
 gdM (gd v13_7 false) (oM Tryz.prog (.call (Go.Call.mk (.builtin .len) #[(.tmp 0)] #[22])) 3 [v16_9]) (fun v17_10 w =>
 gdM (gd v13_7 false) (oM Tryz.prog (.binOp .lss 3 (.tmp 0) (.tmp 1) 3) 4 [v17_10, (.int .i64 2)]) (fun v18_11 w =>
 oM Tryz.prog (.pick (.tmp 0) (.tmp 1) (.tmp 2)) 4 [v13_7, (.bool true), v18_11] (fun v19_12 w =>
 gdM (gd v19_12 false) (oM Tryz.prog (.fieldAddr 24 (.tmp 0) 0) 0 [v3_2]) (fun v21_13 w =>
 gdM (gd v19_12 false) (oM Tryz.prog (.load 22 (.tmp 0)) 22 [v21_13]) (fun v22_14 w =>
 gdM (gd v19_12 false) (oM Tryz.prog (.call (Go.Call.mk (.builtin .len) #[(.tmp 0)] #[22])) 3 [v22_14]) (fun v23_15 w =>
 gdM (gd v19_12 false) (oM Tryz.prog (.binOp .gtr 3 (.tmp 0) (.tmp 1) 3) 4 [v23_15, (.int .i64 7)]) (fun v24_16 w =>
 oM Tryz.prog (.pick (.tmp 0) (.tmp 1) (.tmp 2)) 4 [v19_12, (.bool true), v24_16] (fun v25_17 w =>
 gdM (gd v25_17 false) (oM Tryz.prog (.fieldAddr 24 (.tmp 0) 0) 0 [v3_2]) (fun v27_18 w =>
 gdM (gd v25_17 false) (oM Tryz.prog (.load 22 (.tmp 0)) 22 [v27_18]) (fun v28_19 w =>
 gdM (gd v25_17 false) (pureM v10_4) (fun v29_20 w =>
 gdM (gd v25_17 false) (callM Tryz.prog 92 #[v28_19, v29_20]) (fun v30_21 w =>
 oM Tryz.prog (.pick (.tmp 0) (.tmp 1) (.tmp 2)) 4 [v25_17, (.bool true), v30_21] (fun v31_22 w =>
 gdM (gd v31_22 false) (pureM v10_4) (fun v33_23 w =>
 gdM (gd v31_22 false) (oM Tryz.prog (.fieldAddr 24 (.tmp 0) 1) 0 [v3_2]) (fun v34_24 w =>
 gdM (gd v31_22 false) (oM Tryz.prog (.load 3 (.tmp 0)) 3 [v34_24]) (fun v35_25 w =>
 gdM (gd v31_22 false) (oM Tryz.prog (.call (Go.Call.mk (.value (.tmp 0)) #[(.tmp 1)] #[3])) 4 [v33_23, v35_25]) (fun v36_26 w =>
 oM Tryz.prog (.pick (.tmp 0) (.tmp 1) (.tmp 2)) 4 [v31_22, (.bool true), v36_26] (fun v37_27 w =>
 condM v37_27
 (oM Tryz.prog (.build 32 #[]) 32 [] (fun v38_28 w =>
 oM Tryz.prog (.store 32 (.tmp 0) (.tmp 1)) 0 [v4_3, v38_28] (fun _ w =>
 ∃ r_29, (do loadVar 32 (← asAddr v4_3) : Sem Value).run Tryz.prog w = .ok r_29 w ∧ K (.tuple #[r_29, (.bool false)]) w) w) w)
 (heldM w (fun C_30 w => (((true : Bool) = true) ∧ (oH Tryz.prog (.load 30 (.tmp 0)) 30 [v2_1] C_30 (fun v39_31 =>
 oH Tryz.prog (.load 30 (.tmp 0)) 30 [v2_1] C_30 (fun v40_32 =>
 oH Tryz.prog (.fieldAddr 30 (.tmp 0) 2) 0 [v2_1] C_30 (fun v41_33 =>
 oH Tryz.prog (.load 3 (.tmp 0)) 3 [v41_33] C_30 (fun v42_34 =>
 oH Tryz.prog (.fieldAddr 24 (.tmp 0) 1) 0 [v3_2] C_30 (fun v43_35 =>
 oH Tryz.prog (.load 3 (.tmp 0)) 3 [v43_35] C_30 (fun v44_36 =>
 ∃ S_37 : World → World → Prop, ∃ R_38 : Value → World → Prop, (∀ v w w_1, S_37 w w_1 → R_38 v w → R_38 v w_1) ∧
 (∀ w, C_30 w → (callM Tryz.prog 24 #[v40_32, v42_34, v44_36] (fun v w_1 => C_30 w_1 ∧ S_37 w w_1 ∧ R_38 v w_1) w)) ∧
 (∃ R_39 : Value → World → Prop, (∀ v w w_1, S_37 w w_1 → R_39 v w → R_39 v w_1) ∧
 (∀ w, C_30 w → ∀ v45_40, R_38 v45_40 w → (oM Tryz.prog (.build 32 #[(0, (.tmp 0)), (2, (.tmp 1))]) 32 [v39_31, v45_40] (fun v w_1 => C_30 w_1 ∧ S_37 w w_1 ∧ R_39 v w_1) w)) ∧
 (∃ R_41 : Value → World → Prop, (∀ v w w_1, S_37 w w_1 → R_41 v w → R_41 v w_1) ∧
 (∀ w, C_30 w → (oM Tryz.prog (.alloc 32) 0 [] (fun v w_1 => C_30 w_1 ∧ S_37 w w_1 ∧ R_41 v w_1) w)) ∧
 (∀ w, C_30 w → ∀ v45_42, R_38 v45_42 w → ∀ v46_43, R_39 v46_43 w → ∀ v7_44, R_41 v7_44 w → (
 oM Tryz.prog (.store 32 (.tmp 0) (.tmp 1)) 0 [v7_44, v46_43] (fun _ w =>
 oM Tryz.prog (.fieldAddr 24 (.tmp 0) 0) 0 [v3_2] (fun v47_45 w =>
 oM Tryz.prog (.load 22 (.tmp 0)) 22 [v47_45] (fun v48_46 w =>
 oM Tryz.prog (.call (Go.Call.mk (.builtin .len) #[(.tmp 0)] #[22])) 3 [v48_46] (fun v49_47 w =>
 loopM [undef, (.int .i64 0)] w (fun J_48 m_49 l_50 u_l_50 w0_l_50 => (fun w => (
 oM Tryz.prog (.binOp .lss 3 (.tmp 0) (.tmp 1) 3) 0 [(l_50.getD 1 undef), v49_47] (fun v51_51 w =>
 condM v51_51
 (oM Tryz.prog (.indexAddr 22 (.tmp 0) (.tmp 1)) 0 [v48_46, (l_50.getD 1 undef)] (fun v52_52 w =>
 oM Tryz.prog (.load 3 (.tmp 0)) 3 [v52_52] (fun v53_53 w =>
 heldM w (fun C_54 w => (((true : Bool) = true) ∧ (oH Tryz.prog (.fieldAddr 32 (.tmp 0) 1) 0 [v7_44] C_54 (fun v54_55 =>
 oH Tryz.prog (.load 22 (.tmp 0)) 22 [v54_55] C_54 (fun v55_56 =>
 oH Tryz.prog (.load 30 (.tmp 0)) 30 [v2_1] C_54 (fun v56_57 =>
 oH Tryz.prog (.fieldAddr 30 (.tmp 0) 2) 0 [v2_1] C_54 (fun v57_58 =>
 oH Tryz.prog (.load 3 (.tmp 0)) 3 [v57_58] C_54 (fun v58_59 =>
 pureH v53_53 C_54 (fun v59_60 =>
 ∃ S_61 : World → World → Prop, ∃ R_62 : Value → World → Prop, (∀ v w w_1, S_61 w w_1 → R_62 v w → R_62 v w_1) ∧
 (∀ w, C_54 w → (callM Tryz.prog 24 #[v56_57, v58_59, v59_60] (fun v w_1 => C_54 w_1 ∧ S_61 w w_1 ∧ R_62 v w_1) w)) ∧
 (∃ R_63 : Value → World → Prop, (∀ v w w_1, S_61 w w_1 → R_63 v w → R_63 v w_1) ∧
 (∀ w, C_54 w → ∀ v60_64, R_62 v60_64 w → (oM Tryz.prog (.buildSlice 22 1 #[(0, (.tmp 0))]) 22 [v60_64] (fun v w_1 => C_54 w_1 ∧ S_61 w w_1 ∧ R_63 v w_1) w)) ∧
 (∀ w, C_54 w → ∀ v60_65, R_62 v60_65 w → ∀ v61_66, R_63 v61_66 w → (
 oM Tryz.prog (.call (Go.Call.mk (.builtin .append) #[(.tmp 0), (.tmp 1)] #[22, 22])) 22 [v55_56, v61_66] (fun v62_67 w =>
 oM Tryz.prog (.fieldAddr 32 (.tmp 0) 1) 0 [v7_44] (fun v63_68 w =>
 oM Tryz.prog (.store 22 (.tmp 0) (.tmp 1)) 0 [v63_68, v62_67] (fun _ w =>
 oM Tryz.prog (.binOp .add 3 (.tmp 0) (.tmp 1) 3) 3 [(l_50.getD 1 undef), (.int .i64 1)] (fun v64_69 w =>
 J_48 [v53_53, v64_69] w ∧ m_49 [v53_53, v64_69] w < m_49 l_50 w0_l_50) w) w) w) w))))))))))))) w) w)
 (oM Tryz.prog (.load 32 (.tmp 0)) 32 [v7_44] (fun v65_70 w =>
 oM Tryz.prog (.store 32 (.tmp 0) (.tmp 1)) 0 [v4_3, v65_70] (fun _ w =>
 ∃ r_71, (do loadVar 32 (← asAddr v4_3) : Sem Value).run Tryz.prog w = .ok r_71 w ∧ K (.tuple #[r_71, (.bool true)]) w) w) w)) w)) w0_l_50)) w) w) w) w))))))))))))))) w) w) w) w) w) w) w) w) w) w) w) w) w) w) w) w) w) w) w) w) w) w) w) w) w) w) w
theorem sh_63_eq (a0 : Value) (a1 : Value) (K : Value → World → Prop) (w : World) : sh_63 a0 a1 K w = code Tryz.prog (fun i => bif Nat.beq i 4 then .free [0, 1, 2, 3, 4, 5] [6, 7, 8] [9] else bif Nat.beq i 8 then .free [0, 1, 2, 3, 4, 5] [6, 7] [8, 9, 10] else 0) 66 (Tryz.f63.body.getD .skip) (slotsAt [a0, a1]) (retK Tryz.prog [.cell 4 32, .tmp 5] K) w := by kernel_rfl
theorem sh_63_ok {a0 a1 : Value} {K : Value → World → Prop} {w : World} (h : sh_63 a0 a1 K w) : callM Tryz.prog 63 #[a0, a1] K w :=
  calls_of_code (fun i => bif Nat.beq i 4 then .free [0, 1, 2, 3, 4, 5] [6, 7, 8] [9] else bif Nat.beq i 8 then .free [0, 1, 2, 3, 4, 5] [6, 7] [8, 9, 10] else 0) (fn := Tryz.f63) (rs := [.cell 4 32, .tmp 5]) Tryz.func63 rfl rfl (by kernel_rfl) (Nat.le_of_ble_eq_true rfl) ((sh_63_eq a0 a1 K w).mp h)
def sh_132 (a0 : Value) (a1 : Value) (K : Value → World → Prop) (w : World) : Prop :=
 oM Tryz.prog (.binOp .lss 3 (.tmp 0) (.tmp 1) 3) 4 [a0, (.int .i64 1)] (fun v5_1 w =>
 gdM (gd v5_1 false) (pureM a0) (fun v7_2 w =>
 gdM (gd v5_1 false) (oM Tryz.prog (.fieldAddr 30 (.tmp 0) 1) 0 [a1]) (fun v8_3 w =>
 gdM (gd v5_1 false) (oM Tryz.prog (.load 3 (.tmp 0)) 3 [v8_3]) (fun v9_4 w =>
 gdM (gd v5_1 false) (oM Tryz.prog (.binOp .geq 3 (.tmp 0) (.tmp 1) 3) 4 [v7_2, v9_4]) (fun v10_5 w =>
 oM Tryz.prog (.pick (.tmp 0) (.tmp 1) (.tmp 2)) 4 [v5_1, (.bool true), v10_5] (fun v11_6 w =>
 K v11_6 w) w) w) w) w) w) w
theorem sh_132_eq (a0 : Value) (a1 : Value) (K : Value → World → Prop) (w : World) : sh_132 a0 a1 K w = code Tryz.prog (fun _ => 0) 12 (Tryz.f132.body.getD .skip) (slotsAt [a0, a1]) (retK Tryz.prog [.tmp 3] K) w := by kernel_rfl
theorem sh_132_ok {a0 a1 : Value} {K : Value → World → Prop} {w : World} (h : sh_132 a0 a1 K w) : callM Tryz.prog 132 #[a0, a1] K w :=
  calls_of_code (fun _ => 0) (fn := Tryz.f132) (rs := [.tmp 3]) Tryz.func132 rfl rfl (by kernel_rfl) (Nat.le_of_ble_eq_true rfl) ((sh_132_eq a0 a1 K w).mp h)
def sh_38 (a0 : Value) (a1 : Value) (a2 : Value) (a3 : Value) (K : Value → World → Prop) (w : World) : Prop :=
 oM Tryz.prog (.box 32 (.tmp 0)) 0 [a0] (fun v4_1 w =>
 oM Tryz.prog (.call (Go.Call.mk (.builtin .len) #[(.tmp 0)] #[85])) 3 [a2] (fun v17_2 w =>
 oM Tryz.prog (.load 32 (.tmp 0)) 32 [v4_1] (fun v19_3 w =>
 callM Tryz.prog 64 #[v19_3] (fun v20_4 w =>
 oM Tryz.prog (.extract (.tmp 0) 0) 116 [v20_4] (fun v21_5 w =>
 oM Tryz.prog (.extract (.tmp 0) 1) 4 [v20_4] (fun v22_6 w =>
 oM Tryz.prog (.alloc 116) 0 [] (fun v10_7 w =>
 oM Tryz.prog (.store 116 (.tmp 0) (.tmp 1)) 0 [v10_7, v21_5] (fun _ w =>
 oM Tryz.prog (.unOp .not 4 (.tmp 0)) 4 [v22_6] (fun v24_8 w =>
 gdM (gd v24_8 false) (pureM v17_2) (fun v26_9 w =>
 gdM (gd v24_8 false) (oM Tryz.prog (.binOp .lss 3 (.tmp 0) (.tmp 1) 3) 4 [v26_9, (.int .i64 1)]) (fun v27_10 w =>
 oM Tryz.prog (.pick (.tmp 0) (.tmp 1) (.tmp 2)) 4 [v24_8, (.bool true), v27_10] (fun v28_11 w =>
 gdM (gd v28_11 false) (pureM v17_2) (fun v30_12 w =>
 gdM (gd v28_11 false) (oM Tryz.prog (.binOp .gtr 3 (.tmp 0) (.tmp 1) 3) 4 [v30_12, (.int .i64 5)]) (fun v31_13 w =>
 oM Tryz.prog (.pick (.tmp 0) (.tmp 1) (.tmp 2)) 4 [v28_11, (.bool true), v31_13] (fun v32_14 w =>
 condM v32_14
 (K (.bool false) w)
 (oM Tryz.prog (.call (Go.Call.mk (.builtin .len) #[(.tmp 0)] #[85])) 3 [a2] (fun v34_15 w =>
 loopM [undef, undef, (.bool false), undef, (.int .i64 0)] w (fun J_16 m_17 l_18 u_l_18 w0_l_18 => (fun w => (
 oM Tryz.prog (.binOp .lss 3 (.tmp 0) (.tmp 1) 3) 0 [(l_18.getD 4 undef), v34_15] (fun v36_19 w =>
 condM v36_19
 (oM Tryz.prog (.indexAddr 85 (.tmp 0) (.tmp 1)) 0 [a2, (l_18.getD 4 undef)] (fun v38_20 w =>
 oM Tryz.prog (.load 91 (.tmp 0)) 91 [v38_20] (fun v39_21 w =>
 oM Tryz.prog (.alloc 91) 0 [] (fun v13_22 w =>
 oM Tryz.prog (.store 91 (.tmp 0) (.tmp 1)) 0 [v13_22, v39_21] (fun _ w =>
 oM Tryz.prog (.makeFunc (Go.Fn.func 93) #[] #[(.tmp 0), (.tmp 1)]) 138 [v4_1, v13_22] (fun v41_23 w =>
 callM Tryz.prog 92 #[a1, v41_23] (fun v42_24 w =>
 oM Tryz.prog (.unOp .not 4 (.tmp 0)) 4 [v42_24] (fun v44_25 w =>
 gdM (gd v44_25 false) (oM Tryz.prog (.fieldAddr 91 (.tmp 0) 2) 0 [v13_22]) (fun v46_26 w =>
 gdM (gd v44_25 false) (oM Tryz.prog (.load 9 (.tmp 0)) 9 [v46_26]) (fun v47_27 w =>
 gdM (gd v44_25 false) (oM Tryz.prog (.call (Go.Call.mk (.builtin .len) #[(.tmp 0)] #[9])) 3 [v47_27]) (fun v48_28 w =>
 gdM (gd v44_25 false) (oM Tryz.prog (.binOp .gtr 3 (.tmp 0) (.tmp 1) 3) 4 [v48_28, (.int .i64 8000)]) (fun v49_29 w =>
 oM Tryz.prog (.pick (.tmp 0) (.tmp 1) (.tmp 2)) 4 [v44_25, (.bool true), v49_29] (fun v50_30 w =>
 gdM (gd v50_30 false) (oM Tryz.prog (.load 32 (.tmp 0)) 32 [v4_1]) (fun v52_31 w =>
 gdM (gd v50_30 false) (oM Tryz.prog (.fieldAddr 91 (.tmp 0) 0) 0 [v13_22]) (fun v53_32 w =>
 gdM (gd v50_30 false) (oM Tryz.prog (.load 41 (.tmp 0)) 41 [v53_32]) (fun v54_33 w =>
 gdM (gd v50_30 false) (oM Tryz.prog (.fieldAddr 91 (.tmp 0) 1) 0 [v13_22]) (fun v55_34 w =>
 gdM (gd v50_30 false) (oM Tryz.prog (.load 49 (.tmp 0)) 49 [v55_34]) (fun v56_35 w =>
 gdM (gd v50_30 false) (callM Tryz.prog 36 #[v52_31, v54_33, v56_35]) (fun v57_36 w =>
 gdM (gd v50_30 false) (oM Tryz.prog (.unOp .not 4 (.tmp 0)) 4 [v57_36]) (fun v58_37 w =>
 oM Tryz.prog (.pick (.tmp 0) (.tmp 1) (.tmp 2)) 4 [v50_30, (.bool true), v58_37] (fun v59_38 w =>
 condM v59_38
 (K (.bool false) w)
 (joinM (fun M_39 => (oM Tryz.prog (.binOp .add 3 (.tmp 0) (.tmp 1) 3) 3 [(l_18.getD 4 undef), (.int .i64 1)] (fun v62_41 w =>
 oM Tryz.prog (.binOp .lss 3 (.tmp 0) (.tmp 1) 3) 4 [v62_41, v17_2] (fun v64_42 w =>
 condM v64_42
 (heldM w (fun C_43 w => (((true : Bool) = true) ∧ (oH Tryz.prog (.load 32 (.tmp 0)) 32 [v4_1] C_43 (fun v65_44 =>
 pureH a2 C_43 (fun v66_45 =>
 pureH (l_18.getD 4 undef) C_43 (fun v67_46 =>
 oH Tryz.prog (.binOp .add 3 (.tmp 0) (.tmp 1) 3) 3 [v67_46, (.int .i64 1)] C_43 (fun v68_47 =>
 oH Tryz.prog (.indexAddr 85 (.tmp 0) (.tmp 1)) 0 [v66_45, v68_47] C_43 (fun v69_48 =>
 oH Tryz.prog (.fieldAddr 91 (.tmp 0) 0) 0 [v69_48] C_43 (fun v70_49 =>
 oH Tryz.prog (.load 41 (.tmp 0)) 41 [v70_49] C_43 (fun v71_50 =>
 oH Tryz.prog (.fieldAddr 91 (.tmp 0) 2) 0 [v13_22] C_43 (fun v72_51 =>
 oH Tryz.prog (.load 9 (.tmp 0)) 9 [v72_51] C_43 (fun v73_52 =>
 ∃ S_53 : World → World → Prop, ∀ w, C_43 w → (
 callM Tryz.prog 39 #[v65_44, v71_50, v73_52] (fun v74_54 w =>
 M_39 [v74_54] w) w))))))))))))))
 (M_39 [a3] w)) w) w))
 (fun l_40 u_l_40 w => (oM Tryz.prog (.fieldAddr 91 (.tmp 0) 1) 0 [v13_22] (fun v75_55 w =>
 oM Tryz.prog (.fieldAddr 49 (.tmp 0) 0) 0 [v75_55] (fun v76_56 w =>
 oM Tryz.prog (.load 3 (.tmp 0)) 3 [v76_56] (fun v77_57 w =>
 oM Tryz.prog (.binOp .neq 3 (.tmp 0) (.tmp 1) 3) 4 [v77_57, (l_40.getD 0 undef)] (fun v79_58 w =>
 condM v79_58
 (K (.bool false) w)
 (oM Tryz.prog (.binOp .add 3 (.tmp 0) (.tmp 1) 3) 3 [(l_18.getD 4 undef), (.int .i64 1)] (fun v80_59 w =>
 J_16 [(l_18.getD 4 undef), v42_24, (l_18.getD 2 undef), (l_40.getD 0 undef), v80_59] w ∧ m_17 [(l_18.getD 4 undef), v42_24, (l_18.getD 2 undef), (l_40.getD 0 undef), v80_59] w < m_17 l_18 w0_l_18) w)) w) w) w) w)))) w) w) w) w) w) w) w) w) w) w) w) w) w) w) w) w) w) w) w) w)
 (oM Tryz.prog (.binOp .sub 3 (.tmp 0) (.tmp 1) 3) 3 [v17_2, (.int .i64 1)] (fun v83_60 w =>
 oM Tryz.prog (.indexAddr 85 (.tmp 0) (.tmp 1)) 0 [a2, v83_60] (fun v84_61 w =>
 oM Tryz.prog (.fieldAddr 91 (.tmp 0) 2) 0 [v84_61] (fun v85_62 w =>
 oM Tryz.prog (.load 9 (.tmp 0)) 9 [v85_62] (fun v86_63 w =>
 oM Tryz.prog (.binOp .eql 9 (.tmp 0) (.const (.string ⟨#[]⟩)) 9) 4 [v86_63] (fun v87_64 w =>
 K v87_64 w) w) w) w) w) w)) w)) w0_l_18)) w)) w) w) w) w) w) w) w) w) w) w) w) w) w) w) w
theorem sh_38_eq (a0 : Value) (a1 : Value) (a2 : Value) (a3 : Value) (K : Value → World → Prop) (w : World) : sh_38 a0 a1 a2 a3 K w = code Tryz.prog (fun _ => .free [0, 1, 2, 3, 4, 5, 6, 7, 8] [] [9, 10]) 88 (Tryz.f38.body.getD .skip) (slotsAt [a0, a1, a2, a3]) (retK Tryz.prog [.tmp 8] K) w := by kernel_rfl
theorem sh_38_ok {a0 a1 a2 a3 : Value} {K : Value → World → Prop} {w : World} (h : sh_38 a0 a1 a2 a3 K w) : callM Tryz.prog 38 #[a0, a1, a2, a3] K w :=
  calls_of_code (fun _ => .free [0, 1, 2, 3, 4, 5, 6, 7, 8] [] [9, 10]) (fn := Tryz.f38) (rs := [.tmp 8]) Tryz.func38 rfl rfl (by kernel_rfl) (Nat.le_of_ble_eq_true rfl) ((sh_38_eq a0 a1 a2 a3 K w).mp h)
def sh_93 (a0 : Value) (a1 : Value) (a2 : Value) (K : Value → World → Prop) (w : World) : Prop :=
 oM Tryz.prog (.load 32 (.tmp 0)) 32 [a1] (fun v5_1 w =>
 oM Tryz.prog (.fieldAddr 91 (.tmp 0) 0) 0 [a2] (fun v7_2 w =>
 oM Tryz.prog (.load 41 (.tmp 0)) 41 [v7_2] (fun v8_3 w =>
 callM Tryz.prog 29 #[v5_1, a0, v8_3] (fun v9_4 w =>
 K v9_4 w) w) w) w) w
theorem sh_93_eq (a0 : Value) (a1 : Value) (a2 : Value) (K : Value → World → Prop) (w : World) : sh_93 a0 a1 a2 K w = code Tryz.prog (fun _ => 0) 10 (Tryz.f93.body.getD .skip) (slotsAt [a0, a1, a2]) (retK Tryz.prog [.tmp 4] K) w := by kernel_rfl
theorem sh_93_ok {a0 a1 a2 : Value} {K : Value → World → Prop} {w : World} (h : sh_93 a0 a1 a2 K w) : callM Tryz.prog 93 #[a0, a1, a2] K w :=
  calls_of_code (fun _ => 0) (fn := Tryz.f93) (rs := [.tmp 4]) Tryz.func93 rfl rfl (by kernel_rfl) (Nat.le_of_ble_eq_true rfl) ((sh_93_eq a0 a1 a2 K w).mp h)
end Go.Proofs
namespace Go.Proofs.Cd
open Go Go.Sh Go.RowKit Go.Lib CodeSpec
set_option linter.unusedSimpArgs false
set_option linter.unusedVariables false
set_option maxRecDepth 100000
theorem pText_ok (s : List UInt8) (hs : s.length < 2^60) {K : Value → World → Prop} {w : World} (hl : Laid w) (k : ∀ w', Below w.heap.size w w' → K (.string ⟨(encText s).toArray⟩) w') : callM Tryz.prog 95 #[.string ⟨s.toArray⟩] K w := by
  apply sh_95_ok
  unfold sh_95
  have hin : InR (s.length : Nat) := ⟨by omega, by omega⟩
  have hi := itoa_len _ hin
  repeat (any_goals ((with_reducible refine idO ?_); (with_reducible refine oM_gen fun Kv hK=>?_); simp [go_sem]; refine hK _ _ ?_; clear hK; clear Kv))
  refine itoa_ok _ hin hl (fun w1 hb1 => ?_)
  repeat (any_goals ((with_reducible refine idO ?_); (with_reducible refine oM_gen fun Kv hK=>?_); simp [go_sem]; refine And.intro (by omega) (hK _ _ ?_); clear hK; clear Kv))
  exact K_eq (k _ hb1) (by simp [encText])
end Go.Proofs.Cd
namespace Go.Proofs
open Go Go.Sh Go.RowKit FdSpec TkSpec CodeSpec
set_option linter.unusedSimpArgs false
set_option linter.unusedVariables false
set_option maxRecDepth 10000
section
variable {K : Value → World → Prop} {w w0 : World} {L : List (Addr × Value)}
theorem Valid_ok (s : Stp) (key : Int) (t : Tkt) {v : Value} (hkey : I64 key) (ht : TktR t) (hs : SetR w s v) (hL : Cd.Laid w) (k : ∀ w', Below w.heap.size w w' → K (.bool (validM s key t)) w') : callM Tryz.prog 29 #[stpV s v, .int .i64 key, tktV t] K w := by
  apply sh_29_ok
  unfold sh_29
  obtain ⟨ad, c, rfl⟩ := hs.ints.isSlice
  refine box_kn (cs := stpC s (.slice ad s.bases.length c)) rfl (.start w) fun b W hk hb1 hb => ?_
  refine box_kn (cs := tktC t) rfl hk fun b2 W2 hk hb2 hbb => ?_
  repeat (any_goals ((with_reducible refine idO ?_); (with_reducible refine oM_gen fun Kv hK=>?_); simp [go_sem, hk.cells]; refine hK _ _ ?_; clear hK; clear Kv))
  refine formed_ok s t ht (hs.next hk.below) (fun w2 h => ?_)
  have hk := hk.next h
  clear h hb1 hb2
  unfold validM at k
  iterate 2 (any_goals ((with_reducible refine idO ?_); (with_reducible refine oM_gen fun Kv hK=>?_); simp [go_sem]; refine hK _ _ ?_; clear hK; clear Kv))
  refine local_desk' s ad s.bases.length c hk (fun b7 W7 hk hb7 hg7 => ?_)
  cases hf : formedM s t with
  | false =>
    rw [hf, Bool.false_and, Bool.false_and, Bool.false_and] at k
    repeat (any_goals (first
    | (with_reducible first|((refine idGd ?_); refine zD ?_)|((refine idPick ?_); refine yB ?_)|((refine idCond ?_); refine yL ?_))
    | ((with_reducible refine idO ?_); (with_reducible refine oM_gen fun Kv hK=>?_); simp [go_sem]; refine hK _ _ ?_; clear hK; clear Kv)))
    exact k _ hk.below
  | true =>
  rw [hf, Bool.true_and] at k
  repeat (any_goals (first
  | (with_reducible first|refine pureM_in ?_|((refine idGd ?_); refine zC ?_))
  | ((with_reducible refine idO ?_); (with_reducible refine oM_gen fun Kv hK=>?_); simp [go_sem, hk.cells]; refine hK _ _ ?_; clear hK; clear Kv)))
  refine key_ok s key hkey (hs.next hk.below) (fun w3 h3 => ?_)
  have hk := hk.next h3
  clear h3
  cases hke : keyM s key with
  | false =>
    rw [hke, Bool.false_and, Bool.false_and] at k
    repeat (any_goals (first
    | (with_reducible first|((refine idGd ?_); refine zC ?_)|((refine idPick ?_); refine yC ?_)|((refine idCond ?_); refine yL ?_))
    | ((with_reducible refine idO ?_); (with_reducible refine oM_gen fun Kv hK=>?_); simp [go_sem]; refine hK _ _ ?_; clear hK; clear Kv)))
    exact k _ hk.below
  | true =>
  rw [hke, Bool.true_and] at k
  repeat (any_goals (first
  | (with_reducible first|((refine idGd ?_); refine zC ?_)|((refine idPick ?_); refine yC ?_)|((refine idCond ?_); refine yM ?_))
  | ((with_reducible refine idO ?_); (with_reducible refine oM_gen fun Kv hK=>?_); simp [go_sem, hk.cells]; refine hK _ _ ?_; clear hK; clear Kv)))
  refine inner_ok s t ht (hs.next hk.below) (hL.below hk.below hL.size) (fun w4 h4 => ?_)
  have hk := hk.next h4
  clear h4
  by_cases h0 : innerQ s t = 0
  · rw [decide_eq_true h0] at k
    repeat (any_goals (first
    | (with_reducible first|((refine idGd ?_); refine zB ?_)|((refine idPick ?_); refine yC ?_))
    | ((with_reducible refine idO ?_); (with_reducible refine oM_gen fun Kv hK=>?_); simp [go_sem, hk.cells, h0]; refine hK _ _ ?_; clear hK; clear Kv)))
    exact k _ hk.below
  · rw [decide_eq_false h0] at k
    repeat (any_goals (first
    | (with_reducible first|refine pureM_in ?_|((refine idGd ?_); refine zA ?_))
    | ((with_reducible refine idO ?_); (with_reducible refine oM_gen fun Kv hK=>?_); simp [go_sem, hk.cells, h0]; refine hK _ _ ?_; clear hK; clear Kv)))
    refine signed_ok s key t.mark (innerQ s t) t.r ⟨t.z, t.a, t.b⟩ ⟨ht.z, ht.a, ht.b⟩ (hs.next hk.below) (fun w5 h5 => ?_)
    have hk := hk.next h5
    have k := k _ hk.below
    simp only [Bool.not_false, Bool.true_and] at k
    generalize signedM s key t.mark (innerQ s t) t.r ⟨t.z, t.a, t.b⟩ = q at *
    repeat (any_goals (with_reducible ((refine idPick ?_); refine yB ?_)))
    exact k
end
end Go.Proofs
namespace Go.Proofs
open Go Go.Sh Go.RowKit FdSpec TkSpec CodeSpec
set_option linter.unusedSimpArgs false
set_option linter.unusedVariables false
set_option maxRecDepth 10000
section
variable {K : Value → World → Prop} {w w0 : World} {L : List (Addr × Value)}
theorem numberM_range (s : List UInt8) (n : Int) (hn : okN n) : 0 ≤ numberM s n ∧ numberM s n < n := by
  unfold numberM
  rw [if_pos hn]
  have h : ∀ (l : List UInt8) (o : Int), 0 ≤ o ∧ o < n → 0 ≤ l.foldl (numStep n) o ∧ l.foldl (numStep n) o < n := by
    intro l
    induction l with
    | nil => intro o h; exact h
    | cons a l ih => intro o h; exact ih _ (addM_range n _ _ hn)
  exact h _ 0 (by unfold okN at hn; omega)
theorem lend_nums {q : Int} (h : 5 ≤ q) (h2 : q < 1152921504606846976) : okN (q - 1 - q / 2) := by unfold okN; omega
theorem encT_eq (t : Tkt) : encM t = encT t := rfl
theorem validS_bd {s : Stp} (h : validS s = true) : 5 ≤ s.g.Q ∧ s.g.Q < 1152921504606846976 := by
  unfold validS at h
  simp only [Bool.and_eq_true] at h
  have hg := h.1.1.1.1
  by_cases hc : s.g.Q < 5 ∨ 1152921504606846976 ≤ s.g.Q ∨ s.g.P ≠ 2 * s.g.Q + 1 ∨ s.g.G < 2 ∨ s.g.P ≤ s.g.G
  · rw [validG_not hc] at hg; cases hg
  · omega
theorem LendDare_ok (s : Stp) (t : Tkt) (m : List UInt8) {v : Value} (hm : m.length ≤ 100000000) (ht : TktR t) (hs : SetR w s v) (hL : Cd.Laid w) (k : ∀ w', Below w.heap.size w w' → K (.int .i64 (lendM s t m)) w') : callM Tryz.prog 39 #[stpV s v, tktV t, .string ⟨m.toArray⟩] K w := by
  apply sh_39_ok
  unfold sh_39
  obtain ⟨ad, c, rfl⟩ := hs.ints.isSlice
  refine box_kn (cs := stpC s (.slice ad s.bases.length c)) rfl (.start w) fun b W hk hb1 hb => ?_
  refine box_kn (cs := tktC t) rfl hk fun b2 W2 hk hb2 hbb => ?_
  unfold lendM at k
  repeat (any_goals ((with_reducible refine idO ?_); (with_reducible refine oM_gen fun Kv hK=>?_); simp [go_sem, hk.cells]; refine hK _ _ ?_; clear hK; clear Kv))
  refine open_ok s (hs.next hk.below) (fun w2 h => ?_)
  have hk := hk.next h
  clear h hb1 hb2
  iterate 2 (any_goals ((with_reducible refine idO ?_); (with_reducible refine oM_gen fun Kv hK=>?_); simp [go_sem]; refine hK _ _ ?_; clear hK; clear Kv))
  refine local_desk' s ad s.bases.length c hk (fun b7 W7 hk hb7 hg7 => ?_)
  cases hv : validS s with
  | false =>
    rw [hv, if_neg (by decide)] at k
    repeat (any_goals (first
    | (with_reducible ((refine idCond ?_); refine yL ?_))
    | ((with_reducible refine idO ?_); (with_reducible refine oM_gen fun Kv hK=>?_); simp [go_sem]; refine hK _ _ ?_; clear hK; clear Kv)))
    exact k _ hk.below
  | true =>
  rw [hv, if_pos rfl] at k
  obtain ⟨hq1, hq2⟩ := validS_bd hv
  have hr := numberM_range (encT t ++ encText m) _ (lend_nums hq1 hq2)
  have ed : s.g.Q.tdiv 2 = s.g.Q / 2 := Int.tdiv_eq_ediv_of_nonneg (by omega)
  have e0 : IntKind.i64.wrap (s.g.Q / 2) = s.g.Q / 2 := wrapI64 _ (by omega) (by omega)
  have e1 : IntKind.i64.wrap (s.g.Q / 2 + 1) = s.g.Q / 2 + 1 := wrapI64 _ (by omega) (by omega)
  have e2 : IntKind.i64.wrap (s.g.Q - 1) = s.g.Q - 1 := wrapI64 _ (by omega) (by omega)
  have e3 : IntKind.i64.wrap (s.g.Q - 1 - s.g.Q / 2) = s.g.Q - 1 - s.g.Q / 2 := wrapI64 _ (by omega) (by omega)
  have e4 : IntKind.i64.wrap (s.g.Q / 2 + 1 + numberM (encT t ++ encText m) (s.g.Q - 1 - s.g.Q / 2)) = s.g.Q / 2 + 1 + numberM (encT t ++ encText m) (s.g.Q - 1 - s.g.Q / 2) := wrapI64 _ (by omega) (by omega)
  repeat (any_goals (first
  | (with_reducible ((refine idCond ?_); refine yM ?_))
  | ((with_reducible refine idO ?_); (with_reducible refine oM_gen fun Kv hK=>?_); simp [go_sem, hk.cells, ed, e0]; refine hK _ _ ?_; clear hK; clear Kv)))
  have hk := hk.drew
  refine ⟨Kn w _, hk, ?_⟩
  repeat (any_goals (first
  | (with_reducible refine And.intro hk ?_)
  | (with_reducible refine pureH_in ?_)
  | ((with_reducible refine idOH ?_); (with_reducible refine oH_of ⟨_, rfl⟩ (fun W0 hW0 => by (refine oM_gen (fun Kv hK => ?_)); simp [go_sem, hW0.cells, e1, e2, e3]; (first | exact hK _ _ ⟨rfl, rfl⟩ | exact ⟨by omega, hK _ _ ⟨rfl, rfl⟩⟩)) ?_))))
  refine Encode_ok t ht (hL.below hk.below hL.size) (fun w3 h3 => ?_)
  have hk := hk.next h3
  refine ⟨hk, ?_⟩
  clear h3
  refine Cd.pText_ok m (by omega) (hL.below hk.below hL.size) (fun w4 h4 => ?_)
  have hk := hk.next h4
  refine ⟨hk, ?_⟩
  clear h4
  have hl1 := encM_len ht
  have hl2 := Cd.encText_len m (by omega)
  repeat (any_goals (first
  | (with_reducible refine And.intro hk ?_)
  | ((with_reducible refine idO ?_); (with_reducible refine oM_gen fun Kv hK=>?_); simp [go_sem]; refine And.intro (by omega) (hK _ _ ?_); clear hK; clear Kv)))
  rw [encT_eq] at hl1 ⊢
  refine Number_ok (encT t ++ encText m) _ (by rw [List.length_append]; omega) (fun w5 h5 => ?_)
  have hk := hk.next h5
  clear h5
  refine ⟨hk, ?_⟩
  repeat (any_goals (first
  | (with_reducible refine And.intro hk ?_)
  | ((with_reducible refine idO ?_); (with_reducible refine oM_gen fun Kv hK=>?_); simp [go_sem, e4]; refine hK _ _ ?_; clear hK; clear Kv)))
  exact k _ hk.below
end
end Go.Proofs
namespace Go.Proofs
open Go Go.Sh Go.RowKit FdSpec TkSpec CodeSpec
set_option linter.unusedSimpArgs false
set_option linter.unusedVariables false
set_option maxRecDepth 10000
section
variable {K : Value → World → Prop} {w w0 : World} {L : List (Addr × Value)}
structure GrI (Wl w : World) (g : Nat) (T : TypeId) (cs : List Value) (ov : Value) (l : List Int) : Prop where
  lt : g < Wl.heap.size
  fr : FrG g Wl w
  own : OwnI w Wl.heap.size ov l
  holds : Holds w g T cs
theorem GrI.next {Wl w1 : World} {g : Nat} {T : TypeId} {cs : List Value} {ov : Value} {l : List Int} (h : GrI Wl w g T cs ov l) (hb : Below w.heap.size w w1) : GrI Wl w1 g T cs ov l :=
  ⟨h.lt, h.fr.next hb, h.own.keep hb, h.holds.next hb⟩
theorem GrI.start {g : Nat} {T : TypeId} {cs : List Value} (hg : g < w.heap.size) (hh : Holds w g T cs) : GrI w w g T cs (.slice none 0 0) [] := ⟨hg, Fr.refl _ _, World.ownsRow_nil _ _ _ _, hh⟩
theorem gr_append {Wl : World} {g : Nat} {T T3 : TypeId} {cs : List Value} {ov xv : Value} {l : List Int} {x : Int} (h : GrI Wl w g T cs ov l) (hx : Ints w xv [x]) (hl : l.length < 1099511627776)
    (k : ∀ ad n c w', GrI Wl w' g T cs (.slice ad n c) (l ++ [x]) → K (.slice ad n c) w') : oM Tryz.prog (.call { callee := .builtin .append, args := #[.tmp 0, .tmp 1], argTypes := #[22, 22] }) T3 [ov, xv] K w := by
  refine append1 h.own h.fr.size hx hl (fun v w' ho hb => ?_)
  obtain ⟨ad, c, rfl⟩ := owns_len ho
  have hlt := h.lt
  refine k _ _ _ _ ⟨h.lt, h.fr.trans (S' := fun i => Wl.heap.size ≤ i) ⟨hb.os, hb.tape, hb.output, hb.size, fun i hi hn => hb.block i (by omega)⟩ (fun i h => .inr h), ho, ?_⟩
  have := h.holds
  unfold Holds at this ⊢
  rw [hb.block g hlt]
  exact this
theorem gr_store {Wl : World} {g i : Nat} {T T3 : TypeId} {cs : List Value} {l : List Int} {ad : Option Addr} {n c : Nat} (h : GrI Wl w g T cs (.slice ad n c) l) (hi : i < cs.length)
    (k : ∀ w', GrI Wl w' g T (cs.set i (.slice ad n c)) (.slice ad n c) l → K undef w') : oM Tryz.prog (.store 22 (.tmp 0) (.tmp 1)) T3 [ptr g i, .slice ad n c] K w := by
  refine arr_set sz_ints rfl rfl h.holds hi (fun w' hg hh => ?_)
  have hlt := h.lt
  exact k _ ⟨h.lt, h.fr.by hg (fun i e => .inl (Option.some.inj e).symm), owns_keep h.own (fun j hj => hg.block j (owns_own h.own hj).1 (fun e => by have := (owns_own h.own hj).2.1; have := Option.some.inj e; omega)), hh⟩
def GrJ (Wl : World) (g : Nat) (T : TypeId) (cs : Value → List Value) (al : List Int) (vs : List Value) (w' : World) : Prop := ∃ (v ov : Value) (i : Nat), vs = [v, .int .i64 (i : Int)] ∧ i ≤ al.length ∧ GrI Wl w' g T (cs ov) ov (al.take i)
def grMu (n : Nat) (l : List Value) (_ : World) : Nat := match l with | [_, .int _ i] => n - i.toNat | _ => 0
theorem grMu_eq (n : Nat) (u : Value) (k : IntKind) (i : Int) (w : World) : grMu n [u, .int k i] w = n - i.toNat := rfl
theorem take_snoc {al : List Int} {i : Nat} (h : i < al.length) : al.take i ++ [al[i]] = al.take (i + 1) := by
  rw [List.take_add_one, List.getElem?_eq_getElem h]; rfl
@[reducible] def mirV (m : Mir) (v : Value) : Value := .agg #[v, .int .i64 m.blind]
@[reducible] def mirC (m : Mir) (v : Value) : List Value := [v, .int .i64 m.blind]
structure MirR (w : World) (m : Mir) (v : Value) : Prop where
  ints : Ints w v m.bases
  blind : I64 m.blind
theorem MirR.next {w1 : World} {m : Mir} {v : Value} (h : MirR w m v) (hb : Below w.heap.size w w1) : MirR w1 m v := ⟨h.ints.next hb, h.blind⟩
theorem bad_ok (g : Grp) (x : Int) {b : Nat} (h1 : w.cell? ⟨b, 1, none⟩ = some (.int .i64 g.Q)) (k : ∀ w', Below w.heap.size w w' → K (.bool (badN g x)) w') : callM Tryz.prog 132 #[.int .i64 x, .pointer (some ⟨b, 0, none⟩)] K w := by
  apply sh_132_ok
  unfold sh_132
  have k := k w (Below.refl _ _)
  unfold badN at k
  by_cases h0 : x < 1
  · rw [decide_eq_true h0, Bool.true_or] at k
    repeat (any_goals (first
    | (with_reducible first|((refine idGd ?_); refine zD ?_)|((refine idPick ?_); refine yB ?_))
    | ((with_reducible refine idO ?_); (with_reducible refine oM_gen fun Kv hK=>?_); simp [go_sem, h1, h0]; refine hK _ _ ?_; clear hK; clear Kv)))
    exact k
  · rw [decide_eq_false h0, Bool.false_or] at k
    repeat (any_goals (first
    | (with_reducible first|refine pureM_in ?_|((refine idGd ?_); refine zC ?_)|((refine idPick ?_); refine yC ?_))
    | ((with_reducible refine idO ?_); (with_reducible refine oM_gen fun Kv hK=>?_); simp [go_sem, h1, h0]; refine hK _ _ ?_; clear hK; clear Kv)))
    by_cases h2 : g.Q ≤ x
    · simpa [h2] using k
    · simpa [h2] using k
theorem makeM_no {g : Grp} {m : Mir} (h : validG g = false ∨ m.bases.length < 2 ∨ 7 < m.bases.length ∨ m.bases.any (badN g) = true ∨ badN g m.blind = true) : makeM g m = (⟨⟨0, 0, 0⟩, [], 0⟩, false) := by
  unfold makeM
  rw [if_neg]
  rcases h with h | h | h | h | h <;> simp [h] <;> omega
end
end Go.Proofs
